/- Parts put together. No conditions. -/
import Derived.Test.YtdbkafoghoenoaaGreatDoorWb
import Derived.Test.YtdbkafoghoenoaaGreatDoorAd
import Derived.Test.YtdbkafoghoenoaaGreatDoorWf
set_option linter.unusedSectionVars false
set_option linter.unusedSimpArgs false
set_option linter.unusedVariables false
set_option maxRecDepth 100000
section
namespace Go.AM
theorem iterO_list{α σ τ ST:Type}{f:ST→Option (ST⊕τ)}(mk:Nat→σ→ST)(l:List α)(S:Nat→σ)(fin:τ)
 (hs:∀i x,l[i]? =some x→f (mk i (S i))=some (.inl (mk (i+1) (S (i+1))))) (he:f (mk l.length (S l.length))=some (.inr fin)) (n:Nat) (hn:l.length<n):iterO f n (mk 0 (S 0))=some fin:=by
 have key:∀(k i n:Nat),i+k=l.length→k<n→iterO f n (mk i (S i))=some fin:=by
  intro k;induction k with
  |zero=>
   intro i n hi hn;obtain⟨n,rfl⟩:∃m,n=m+1:=⟨n - 1,by omega⟩
   grind [iterO]
  |succ k ih=>
   intro i n hi hn;obtain⟨n,rfl⟩:∃m,n=m+1:=⟨n - 1,by omega⟩
   simp only[iterO,hs i _ (List.getElem?_eq_getElem (show i<l.length by omega))]
   grind
 exact key l.length 0 n (by omega) hn
def flagsF{α K:Type}[DecidableEq K](key:α→K):List K→List α→List Bool
 |_,[]=>[]
 |seen,x::xs=>decide (key x∈seen)::flagsF key (seen++[key x]) xs
section
variable {α K:Type} [DecidableEq K] (key:α→K)
theorem flagsF_snoc:∀(l:List α) (seen:List K) (x:α),flagsF key seen (l++[x])=flagsF key seen l++[decide (key x∈seen++l.map key)]
 | [],seen,x=>by simp[flagsF]
 |y::l,seen,x=>by
  simp only[List.cons_append,flagsF,flagsF_snoc l,List.map_cons,List.append_assoc,List.nil_append]
theorem flagsF_len:∀(l:List α) (seen:List K),(flagsF key seen l).length=l.length
 | [],_=>rfl
 |_::l,seen=>by simp[flagsF,flagsF_len l]
theorem flagsF_get:∀(l:List α) (seen:List K) (i:Nat),(flagsF key seen l)[i]? =(l[i]?).map fun x=>decide (key x∈seen++(l.take i).map key)
 | [],_,_=>by simp[flagsF]
 |y::l,seen,0=>by simp[flagsF]
 |y::l,seen,i+1=>by
  simp only[flagsF,List.getElem?_cons_succ,flagsF_get l,List.take_succ_cons,List.map_cons,List.append_assoc,List.singleton_append]
variable {eq:K→K→Bool}
def SeenM(m:List (K×Bool))(ks:List K):Prop:=(∀p∈m,p.2=true)∧∀k,k∈m.map (·.1)↔k∈ks
theorem findM_some(heq:∀a b,eq a b=decide (a=b)):∀(m:List (K×Bool)) (k:K) (j i:Nat) (v:Bool),findM eq k m j=some (i,v)→j≤i∧m[i - j]? =some (k,v)
 | [],_,_,_,_,h=>by simp[findM]at h
 |p::ps,k,j,i,v,h=>by
  simp only[findM,heq,decide_eq_true_eq]at h;split at h
  ·grind
  ·obtain⟨h1,h2⟩:=findM_some heq ps k (j+1) i v h;grind
theorem findM_none(heq:∀a b,eq a b=decide (a=b)):∀(m:List (K×Bool)) (k:K) (j:Nat),findM eq k m j=none→k∉m.map (·.1)
 | [],_,_,_=>by simp
 |p::ps,k,j,h=>by
  simp only[findM,heq,decide_eq_true_eq]at h;split at h
  ·cases h
  ·rename_i hk;have:=findM_none heq ps k (j+1) h;grind
theorem SeenM.get(heq:∀a b,eq a b=decide (a=b)){m:List (K×Bool)}{ks:List K}(h:SeenM m ks)(k:K):((findM eq k m 0).map (·.2)).getD false=decide (k∈ks):=by
 cases hf:findM eq k m 0 with
 |none=>
  have:=findM_none heq m k 0 hf;rw[h.2]at this;simp[this]
 |some q=>
  obtain⟨i,v⟩:=q;obtain⟨_,h2⟩:=findM_some heq m k 0 i v hf;have hm:=List.mem_of_getElem? h2;have hv:=h.1 _ hm;have:k∈ks:=(h.2 k).1 (List.mem_map.2 ⟨_,hm,rfl⟩);simp only at hv;simp[this,hv]
theorem SeenM.put(heq:∀a b,eq a b=decide (a=b)){m:List (K×Bool)}{ks:List K}(h:SeenM m ks)(k:K):SeenM (putM eq k true m) (ks++[k]):=by
 unfold putM;split
 ·rename_i i v hf;obtain⟨_,h2⟩:=findM_some heq m k 0 i v hf;rw[Nat.sub_zero]at h2;refine⟨fun p hp=>?_,fun q=>?_⟩
  ·rcases List.mem_or_eq_of_mem_set hp with hp |rfl
   ·exact h.1 p hp
   ·rfl
  ·have hs:(m.set i (k,true)).map (·.1)=m.map (·.1):=by
    rw[List.map_set];apply List.ext_getElem?;intro j;by_cases hj:i=j
    ·grind
    ·rw[List.getElem?_set_ne hj]
   rw[hs,h.2];have hk:k∈ks:=(h.2 k).1 (List.mem_map.2 ⟨_,List.mem_of_getElem? h2,rfl⟩);grind
 ·refine⟨fun p hp=>?_,fun q=>?_⟩
  ·rcases List.mem_append.1 hp with hp |hp
   ·exact h.1 p hp
   ·simp at hp;subst hp;rfl
  ·simp only[List.map_append,List.map_cons,List.map_nil,List.mem_append,h.2 q]
theorem iterO_repeats(heq:∀a b,eq a b=decide (a=b))(l:List α){f:(Int×List (K×Bool)×List Bool)→Option ((Int×List (K×Bool)×List Bool)⊕(List (K×Bool)×List Bool))}
 (hs:∀(i:Nat) x m t,l[i]? =some x→i<t.length→f ((i:Int),m,t)=some (.inl (((i+1:Nat):Int),putM eq (key x) true m,t.set i (((findM eq (key x) m 0).map (·.2)).getD false))))
 (he:∀m t,f ((l.length:Int),m,t)=some (.inr (m,t))) (n:Nat) (hn:l.length<n):∃m,iterO f n (0,[],List.replicate l.length false)=some (m,flagsF key [] l):=by
 refine⟨l.foldl (fun m x=>putM eq (key x) true m) [],?_⟩
 have hM:∀i,SeenM ((l.take i).foldl (fun m x=>putM eq (key x) true m) []) ((l.take i).map key):=by
  have:∀(l:List α) (m:List (K×Bool)) (ks:List K),SeenM m ks→SeenM (l.foldl (fun m x=>putM eq (key x) true m) m) (ks++l.map key):=by
   intro l;induction l with
   |nil=>intro m ks h;simpa using h
   |cons x xs ih=>
    intro m ks h;have:=ih _ _ (h.put heq (key x));simpa using this
  intro i;simpa using this (l.take i) [] [] ⟨by simp,by simp⟩
 have:=iterO_list (f:=f) (fun i (s:List (K×Bool)×List Bool)=>((i:Int),s.1,s.2)) l
  (fun i=>((l.take i).foldl (fun m x=>putM eq (key x) true m) [],flagsF key [] (l.take i)++List.replicate (l.length - i) false))
  (l.foldl (fun m x=>putM eq (key x) true m) [],flagsF key [] l) (fun i x hx=>?_) ?_ n hn
 ·simpa[flagsF]using this
 ·have hlt:=(List.getElem?_eq_some_iff.1 hx).1;have htake:l.take (i+1)=l.take i++[x]:=by
   rw[List.take_add_one,hx];rfl
  have hfl:(flagsF key [] (l.take i)).length=i:=by rw[flagsF_len];simp;omega
  simp only
  rw[hs i x _ _ hx (by simp[hfl];omega),(hM i).get heq]
  congr 2;refine Prod.ext rfl (Prod.ext ?_ ?_)
  ·grind
  ·simp only[htake,flagsF_snoc,List.nil_append];rw[List.set_append_right _ _ (by omega),hfl,Nat.sub_self,show l.length - i=(l.length - (i+1))+1 by omega,List.replicate_succ,List.set_cons_zero]
   simp
 grind
end
section
variable {α K:Type} [DecidableEq K]
theorem bind_repeats(key:α→K){eq:K→K→Bool}(heq:∀a b,eq a b=decide (a=b))(l:List α){f:(Int×List (K×Bool)×List Bool)→Option ((Int×List (K×Bool)×List Bool)⊕(List (K×Bool)×List Bool))}{γ:Type}{k:List (K×Bool)×List Bool→Option γ}{r:Option γ}{n:Nat}(hn:l.length<n)
 (hs:∀(i:Nat) x m t,l[i]? =some x→i<t.length→f ((i:Int),m,t)=some (.inl (((i+1:Nat):Int),putM eq (key x) true m,t.set i (((findM eq (key x) m 0).map (·.2)).getD false))))
 (he:∀m t,f ((l.length:Int),m,t)=some (.inr (m,t))) (hk:∀m,k (m,flagsF key [] l)=r):(iterO f n (0,[],List.replicate l.length false)).bind k=r:=by
 obtain⟨m,hm⟩:=iterO_repeats key heq l hs he n hn;rw[hm];exact hk m
end
def firstErr{α:Type}(E:Nat→α→Int):Nat→List α→Option (Int×Nat)
 |_,[]=>none
 |i,x::xs=>if E i x≠0 then some (E i x,i)else firstErr E (i+1) xs
theorem iterO_first{α τ:Type}{f:Int→Option (Int⊕τ)}(l:List α)(E:Nat→α→Int)(bad:Nat→Int→τ)(fin:τ)
 (hs:∀(i:Nat) x,l[i]? =some x→f (i:Int)=some (if E i x≠0 then .inr (bad i (E i x))else .inl ((i+1:Nat):Int))) (he:f (l.length:Int)=some (.inr fin)) (n:Nat) (hn:l.length<n):
 iterO f n 0=some (match firstErr E 0 l with |none=>fin |some (e,i)=>bad i e):=by
 have:=iterO_scan (f:=f) (fun i (_:Unit)=>(i:Int)) (fun i x (_:Unit)=>if E i x≠0 then Sum.inr (bad i (E i x))else Sum.inl ()) (fun _=>fin) l
  (fun i x s hx=>by rw[hs i x hx];split<;>rfl) (fun _=>he) n () hn
 have key:∀(l:List α) (i:Nat),(match scan (fun i x (_:Unit)=>if E i x≠0 then Sum.inr (bad i (E i x))else Sum.inl ()) i l ()with | .inl _=>fin | .inr t=>t)=(match firstErr E i l with |none=>fin |some (e,i)=>bad i e):=by
  intro l;induction l with
  |nil=>intro i;rfl
  |cons x xs ih=>
   grind [scan,firstErr]
 grind
theorem bind_first{α τ γ:Type}{f:Int→Option (Int⊕τ)}(l:List α)(E:Nat→α→Int)(bad:Nat→Int→τ)(fin:τ){k:τ→Option γ}{r:Option γ}{n:Nat}(hn:l.length<n)
 (hs:∀(i:Nat) x,l[i]? =some x→f (i:Int)=some (if E i x≠0 then .inr (bad i (E i x))else .inl ((i+1:Nat):Int))) (he:f (l.length:Int)=some (.inr fin))
 (hk:(match firstErr E 0 l with |none=>k fin |some (e,i)=>k (bad i e))=r):(iterO f n 0).bind k=r:=by
 rw[iterO_first l E bad fin hs he n hn,← hk];grind
theorem bind_firstS{α τ γ ST:Type}{f:ST→Option (ST⊕τ)}(mk:Nat→ST)(l:List α)(E:Nat→α→Int){k:τ→Option γ}(bad:Nat→Int→Option γ)(fin:Option γ){n:Nat}(hn:l.length<n)
 (hb:∀(i:Nat) x,l[i]? =some x→(∀(j:Nat) y,j<i→l[j]? =some y→E j y=0)→E i x≠0→∃t,f (mk i)=some (.inr t)∧k t=bad i (E i x))
 (hg:∀(i:Nat) x,l[i]? =some x→(∀(j:Nat) y,j<i→l[j]? =some y→E j y=0)→E i x=0→f (mk i)=some (.inl (mk (i+1))))
 (he:(∀(j:Nat) y,l[j]? =some y→E j y=0)→∃t,f (mk l.length)=some (.inr t)∧k t=fin):
 (iterO f n (mk 0)).bind k=(match firstErr E 0 l with |none=>fin |some (e,i)=>bad i e):=by
 have key:∀(m i n:Nat),i+m=l.length→m<n→(∀(j:Nat) y,j<i→l[j]? =some y→E j y=0)→(iterO f n (mk i)).bind k=(match firstErr E i (l.drop i)with |none=>fin |some (e,i)=>bad i e):=by
  intro m;induction m with
  |zero=>
   intro i n hi hn hp;obtain⟨n,rfl⟩:∃m,n=m+1:=⟨n - 1,by omega⟩
   grind [iterO,firstErr]
  |succ m ih=>
   intro i n hi hn hp;obtain⟨n,rfl⟩:∃m,n=m+1:=⟨n - 1,by omega⟩
   have hlt:i<l.length:=by omega
   have hx:=List.getElem?_eq_getElem hlt;rw[List.drop_eq_getElem_cons hlt];grind [firstErr,iterO]
 grind
theorem firstErr_none{α:Type}{E:Nat→α→Int}:∀(l:List α) (i:Nat),firstErr E i l=none↔∀(j:Nat) x,l[j]? =some x→E (i+j) x=0
 | [],i=>by simp[firstErr]
 |x::xs,i=>by
  simp only[firstErr];constructor
  ·intro h;split at h
   ·cases h
   ·rename_i h0;have ih:=(firstErr_none xs (i+1)).1 h;grind
  ·intro h;have h0:=h 0 x rfl;simp only[Nat.add_zero]at h0;rw[if_neg (by simpa using h0)]
   exact(firstErr_none xs (i+1)).2 fun j y hj=>by
    have:=h (j+1) y (by simpa using hj)
    grind
theorem firstErr_idx{α:Type}(p:α→Bool):∀(l:List α) (j:Nat),firstErr (fun _ x=>if p x=true then 1 else 0) j l=(l.findIdx? p).map fun i=>(1,i+j)
 | [],_=>rfl
 |x::xs,j=>by
  simp only[firstErr,List.findIdx?_cons];cases h:p x with
  |true=>simp
  |false=>
   simp only[Bool.false_eq_true,if_false,ne_eq,not_true_eq_false,firstErr_idx p xs (j+1),Option.map_map];congr 1;grind
theorem bind_index{α γ:Type}(l:List α)(p:α→Bool){f:Int→Option (Int⊕(Int⊕Unit))}{k:Int⊕Unit→Option γ}{r:Option γ}{n:Nat}(hn:l.length<n)
 (hs:∀(i:Nat) x,l[i]? =some x→f (i:Int)=some (if p x=true then .inr (.inl (i:Int))else .inl ((i+1:Nat):Int))) (he:f (l.length:Int)=some (.inr (.inr ())))
 (hk:k (match l.findIdx? p with |some i=>.inl (i:Int) |none=>.inr ())=r):(iterO f n 0).bind k=r:=by
 refine bind_first l (fun _ x=>if p x=true then 1 else 0) (fun i _=>.inl (i:Int)) (.inr ()) hn (fun i x hx=>?_) he ?_
 ·rw[hs i x hx];cases p x<;>simp
 grind [firstErr_idx]
def idxOf{α:Type}(p:α→Bool)(l:List α):Int:=match l.findIdx? p with
 |some i=>(i:Int)
 |none=> -1
theorem idxOf_any{α:Type}(p:α→Bool)(l:List α):decide (idxOf p l≥0)=l.any p:=by
 grind [idxOf]
theorem stO_bind{X β:Type}(l:List X)(enc:X→List AVal)(n b ver i o:Nat)(y:X→X)(k:X→Option β):(stO l enc n b ver i o y).run.bind k=(l[i]?).bind k:=rfl
end Go.AM
namespace Go.L
open Go.AM
section leaves
variable {β:Type} (n:Nat)
theorem tenant_outside(x lo hi:Int)(k:c_tenant_outside.sh.El→Option β):(c_tenant_outside.S n (x,lo,hi)).bind k=k (decide (x<lo)||decide (hi<x)):=by
 have:c_tenant_outside.S n (x,lo,hi)=some (decide (x<lo)||decide (hi<x)):=by
  show(g_tenant_outside x lo hi).run n=_;simp only[g_tenant_outside,G.run,tsOk];by_cases h:x<lo<;>simp[h]<;>rfl
 rw[this];rfl
theorem tenant_fail(b:Bool)(e:Int)(p:ByteArray)(i:Int)(k:c_tenant_fail.sh.El→Option β):(c_tenant_fail.S n (b,e,p,i)).bind k=if b=true then k (.inr (e,p,i))else k (.inl ()):=by
 have:c_tenant_fail.S n (b,e,p,i)=some (if b=true then Sum.inr (e,p,i)else Sum.inl ()):=by
  show(g_tenant_fail b e p i).run n=_;simp only[g_tenant_fail,G.run,tsOk];cases b<;>simp<;>rfl
 rw[this];cases b<;>rfl
theorem tenant_within(x m:Int)(k:c_tenant_within.sh.El→Option β):(c_tenant_within.S n (x,m)).bind k=k (decide (0≤x)&&decide (x<m)):=by
 have:c_tenant_within.S n (x,m)=some (decide (0≤x)&&decide (x<m)):=by
  show(g_tenant_within x m).run n=_;simp only[g_tenant_within,G.run,tsOk];by_cases h:0≤x<;>simp[h]<;>rfl
 rw[this];rfl
end leaves
instance :DecidableEq (V2 Int):=fun a b=>decidable_of_iff (a.a0=b.a0∧a.a1=b.a1) ⟨fun h=>by cases a;cases b;simp_all,fun h=>by simp[h]⟩
instance :DecidableEq Prefix:=fun a b=>decidable_of_iff (a.IP=b.IP∧a.Len=b.Len) ⟨fun h=>by cases a;cases b;simp_all,fun h=>by simp[h]⟩
instance :DecidableEq tenant_place:=fun a b=>decidable_of_iff (a.bd=b.bd∧a.addr=b.addr) ⟨fun h=>by cases a;cases b;simp_all,fun h=>by simp[h]⟩
instance :DecidableEq Leak:=fun a b=>decidable_of_iff (a.From=b.From∧a.To=b.To∧a.Prefix=b.Prefix) ⟨fun h=>by cases a;cases b;simp_all,fun h=>by simp[h]⟩
section
variable {α K β:Type} [DecidableEq K]
theorem gRep_b{e:α→List AVal}{sz fn jm:Nat}{c:Ctr prog}{ar:α→c.X}{rs:c.sh.El→K}{ek:K→AVal}{eq:K→K→Bool}{ks:List Kd}{ag:Bool}{hk:∀v,(ek v).pure=true}(heq:∀a b,eq a b=true↔a=b)(key:α→K)(hc:∀n x,∃y,c.S n (ar x)=some y∧rs y=key x)(n:Nat)(l:List α)(hn:l.length<n)(hs:l.length≤4000)(k:List Bool→Option β):
 ((gRep e sz fn jm c ar rs ek eq ks ag hk l).run n).bind k=k (flagsF key [] l):=by
 have:(gRep e sz fn jm c ar rs ek eq ks ag hk l).run n=some (flagsF key [] l):=by
  have hroom:roomy (Int.toNat (l.length:Int)) 1=true:=by simp[roomy];omega
  simp only[gRep,G.run,tsOk,lenO_bind,mksO_bind,idxO_bind,mgetO_bind,msetO_bind,idxS_bind,stO_bind,if_true,Int.toNat_natCast];rw[if_pos ⟨by omega,by simpa using hroom⟩]
  refine bind_repeats key (eq:=eq) (fun a b=>by rw[Bool.eq_iff_iff,heq];simp) l hn (fun i x m t hx ht=>?_) (fun m t=>?_) (fun m=>?_)
  ·have hi:=(List.getElem?_eq_some_iff.1 hx).1;have h1:(0:Int)≤i∧(i:Int)<((List.replicate l.length false).length:Nat):=by simp;omega
   obtain⟨y,hy⟩:∃y,t[i]? =some y:=⟨_,List.getElem?_eq_getElem ht⟩;obtain⟨z,hz,hk⟩:=hc n x;simp only[at?_nat,hx,Option.bind_some,Int.toNat_natCast,hy,hz,hk,h1,and_self,if_true,wrap_nat (show i<9223372036854775807 by omega)]
   simp[hi];rfl
  ·simp;rfl
  ·simp[fzRow,flagsF_len];rfl
 rw[this];rfl
theorem gIdx_b{e:α→List AVal}{sz:Nat}{fv:AVal}{c:Ctr prog}{ar:α→c.X}{rs:c.sh.El→Bool}(p:α→Bool)(hc:∀n x,∃y,c.S n (ar x)=some y∧rs y=p x)(n:Nat)(l:List α)(hn:l.length<n)(hs:l.length≤4000):
 (gIdx e sz fv c ar rs l).run n=some (idxOf p l):=by
 simp only[gIdx,G.run,tsOk,lenO_bind,idxO_bind,if_true];refine bind_index l p hn (fun i x hx=>?_) ?_ ?_
 ·have hi:=(List.getElem?_eq_some_iff.1 hx).1;have hlt:(i:Int)<l.length:=by omega
  obtain⟨y,hy,hp⟩:=hc n x;simp only[at?_nat,hx,Option.bind_some,hlt,decide_true,if_true,hy,hp,wrap_nat (show i<9223372036854775807 by omega)]
  split<;>rfl
 ·simp;rfl
 ·unfold idxOf;cases l.findIdx? p<;>rfl
theorem gCon_b{c:Ctr prog}{x:c.X}{rs:c.sh.El→Int}{y:c.sh.El}(p:α→Bool)(l:List α)(n:Nat)(hc:c.S n x=some y)(hy:rs y=idxOf p l)(k:Bool→Option β):
 ((gCon c x rs).run n).bind k=k (l.any p):=by
 have:(gCon c x rs).run n=some (l.any p):=by
  simp only[gCon,G.run,tsOk,if_true,hc,Option.bind_some,hy,idxOf_any];rfl
 rw[this];rfl
end
theorem repeats_Tenant_uint32{β:Type}(n:Nat)(l:List Tenant)(hn:l.length<n)(hs:l.length≤4000)(k:c_tenant_repeats_Tenant_uint32.sh.El→Option β):(c_tenant_repeats_Tenant_uint32.S n l).bind k=k (flagsF (fun x:Tenant=>x.VNI) [] l):=by
 dsimp only[c_tenant_repeats_Tenant_uint32,Ctr.of];exact gRep_b (K:=Int) (fun a b=>by simp) _ (fun _ _=>⟨_,rfl,rfl⟩) n l hn hs k
theorem repeats_Tenant_uint32_2{β:Type}(n:Nat)(l:List Tenant)(hn:l.length<n)(hs:l.length≤4000)(k:c_tenant_repeats_Tenant_uint32_2.sh.El→Option β):(c_tenant_repeats_Tenant_uint32_2.S n l).bind k=k (flagsF (fun x:Tenant=>x.Target) [] l):=by
 dsimp only[c_tenant_repeats_Tenant_uint32_2,Ctr.of];exact gRep_b (K:=Int) (fun a b=>by simp) _ (fun _ _=>⟨_,rfl,rfl⟩) n l hn hs k
theorem repeats_BD_uint32{β:Type}(n:Nat)(l:List BD)(hn:l.length<n)(hs:l.length≤4000)(k:c_tenant_repeats_BD_uint32.sh.El→Option β):(c_tenant_repeats_BD_uint32.S n l).bind k=k (flagsF (fun x:BD=>x.VNI) [] l):=by
 dsimp only[c_tenant_repeats_BD_uint32,Ctr.of];exact gRep_b (K:=Int) (fun a b=>by simp) _ (fun _ _=>⟨_,rfl,rfl⟩) n l hn hs k
theorem repeats_BD_uint32_2{β:Type}(n:Nat)(l:List BD)(hn:l.length<n)(hs:l.length≤4000)(k:c_tenant_repeats_BD_uint32_2.sh.El→Option β):(c_tenant_repeats_BD_uint32_2.S n l).bind k=k (flagsF (fun x:BD=>x.Target) [] l):=by
 dsimp only[c_tenant_repeats_BD_uint32_2,Ctr.of];exact gRep_b (K:=Int) (fun a b=>by simp) _ (fun _ _=>⟨_,rfl,rfl⟩) n l hn hs k
theorem repeats_Host_tenant_place{β:Type}(n:Nat)(l:List Host)(hn:l.length<n)(hs:l.length≤4000)(k:c_tenant_repeats_Host_tenant_place.sh.El→Option β):(c_tenant_repeats_Host_tenant_place.S n l).bind k=k (flagsF (fun x:Host=>(⟨x.BD,x.MAC⟩:tenant_place)) [] l):=by
 dsimp only[c_tenant_repeats_Host_tenant_place,Ctr.of];exact gRep_b (K:=tenant_place) (fun a b=>by cases a;cases b;simp) _ (fun _ _=>⟨_,rfl,rfl⟩) n l hn hs k
theorem repeats_Host_tenant_place_2{β:Type}(n:Nat)(l:List Host)(hn:l.length<n)(hs:l.length≤4000)(k:c_tenant_repeats_Host_tenant_place_2.sh.El→Option β):(c_tenant_repeats_Host_tenant_place_2.S n l).bind k=k (flagsF (fun x:Host=>(⟨x.BD,(IntKind.wrap .u64 x.IP)⟩:tenant_place)) [] l):=by
 dsimp only[c_tenant_repeats_Host_tenant_place_2,Ctr.of];exact gRep_b (K:=tenant_place) (fun a b=>by cases a;cases b;simp) _ (fun _ _=>⟨_,rfl,rfl⟩) n l hn hs k
theorem repeats_Leak_Leak{β:Type}(n:Nat)(l:List Leak)(hn:l.length<n)(hs:l.length≤4000)(k:c_tenant_repeats_Leak_Leak.sh.El→Option β):(c_tenant_repeats_Leak_Leak.S n l).bind k=k (flagsF (fun x:Leak=>x) [] l):=by
 dsimp only[c_tenant_repeats_Leak_Leak,Ctr.of];exact gRep_b (K:=Leak) (fun a b=>by rcases a with⟨_,_,⟨_,_⟩⟩;rcases b with⟨_,_,⟨_,_⟩⟩;simp) _ (fun _ _=>⟨_,rfl,rfl⟩) n l hn hs k
theorem repeats_Link_2_int{β:Type}(n:Nat)(l:List Link)(hn:l.length<n)(hs:l.length≤4000)(k:c_tenant_repeats_Link_2_int.sh.El→Option β):(c_tenant_repeats_Link_2_int.S n l).bind k=k (flagsF (fun x:Link=>(⟨x.A,x.B⟩:V2 Int)) [] l):=by
 dsimp only[c_tenant_repeats_Link_2_int,Ctr.of];exact gRep_b (K:=V2 Int) (fun a b=>by cases a;cases b;simp) _ (fun _ _=>⟨_,rfl,rfl⟩) n l hn hs k
end Go.L
namespace Go.L
open Go.AM
def outcome(part:ByteArray)(most:Int)(full:Bool)(r:Option (Int×Nat)):Unit⊕(Int×ByteArray×Int):=
 if full=true then .inr (7,part,most)else match r with
 |none=>.inl ()
 |some (e,i)=>.inr (e,part,(i:Int))
def sLinks:ByteArray:=⟨⟨[108,105,110,107,115]⟩⟩
def linkE(f:Fabric)(fl:List Bool)(i:Nat)(x:Link):Int:=
 if(decide (0≤x.A)&&decide (x.A<f.Leaves))=true then
  if decide (x.B≥f.Leaves)=true then
   if(!decide (x.B<IntKind.wrap .i64 (f.Leaves+f.Spines)))=true then 2
   else if(decide (x.Cost<1)||decide (1000<x.Cost))=true then 2
   else if fl.getD i false=true then 11 else 0
  else 2
 else 2
theorem ck_links(n:Nat)(f:Fabric)(hn:f.Links.length<n)(hs:f.Links.length≤128∨128<f.Links.length):
 c_tenant_checker_links.S n ⟨f⟩=some (outcome sLinks 128 (decide (128<(f.Links.length:Int))) (firstErr (linkE f (flagsF (fun x:Link=>(⟨x.A,x.B⟩:V2 Int)) [] f.Links)) 0 f.Links)):=by
 show(g_tenant_checker_links ⟨f⟩).run n=_;simp only[g_tenant_checker_links,G.run,tsOk,lenO_bind,tenant_fail,Sum.elim,gt_iff_lt,decide_eq_true_eq];by_cases hfull:(128:Int)<f.Links.length
 ·simp[hfull,outcome];rfl
 ·simp only[hfull,if_false,decide_false];rw[repeats_Link_2_int n f.Links hn (by omega)]
  simp only[G.run,tsOk,lenO_bind,if_true,idxO_bind,tenant_within,tenant_outside,tenant_fail,Sum.elim];refine bind_first f.Links (linkE f (flagsF (fun x:Link=>(⟨x.A,x.B⟩:V2 Int)) [] f.Links)) (fun i e=>Sum.inl (e,sLinks,(i:Int))) (Sum.inr ()) hn (fun i x hx=>?_) ?_ ?_
  ·have hi:=(List.getElem?_eq_some_iff.1 hx).1;obtain⟨y,hy⟩:∃y,(flagsF (fun x:Link=>(⟨x.A,x.B⟩:V2 Int)) [] f.Links)[i]? =some y:=⟨_,List.getElem?_eq_getElem (by rw[flagsF_len];exact hi)⟩
   have hlt:(i:Int)<f.Links.length:=by omega
   simp only[at?_nat,hx,Option.bind_some,hlt,decide_true,if_true,hy,linkE,List.getD_eq_getElem?_getD,Option.getD_some,wrap_nat (show i<9223372036854775807 by omega)]
   repeat' split
   all_goals first |rfl | (simp_all<;>omega)
  ·simp;rfl
  ·cases firstErr (linkE f (flagsF (fun x:Link=>(⟨x.A,x.B⟩:V2 Int)) [] f.Links)) 0 f.Links with
   |none=>rfl
   |some p=>rfl
end Go.L
namespace Go.L
open Go.AM
theorem contains_hasVNI{β:Type}(n:Nat)(l:List Tenant)(v:Int)(hn:l.length<n)(hs:l.length≤4000)(k:c_slices_ContainsFunc_Tenant_Tenant.sh.El→Option β):(c_slices_ContainsFunc_Tenant_Tenant.S n (l,v)).bind k=k (l.any fun x=>x.VNI==v):=by
 have h:c_slices_IndexFunc_Tenant_Tenant.S n (l,v)=some (idxOf (fun x=>x.VNI==v) l):=by dsimp only[c_slices_IndexFunc_Tenant_Tenant,Ctr.of];exact gIdx_b _ (fun _ _=>⟨_,rfl,rfl⟩) n l hn hs
 dsimp only[c_slices_ContainsFunc_Tenant_Tenant,Ctr.of];exact gCon_b _ l n h rfl k
theorem has_hasVNI{β:Type}(n:Nat)(l:List Tenant)(v:Int)(hn:l.length<n)(hs:l.length≤4000)(k:c_tenant_has_Tenant_uint32.sh.El→Option β):(c_tenant_has_Tenant_uint32.S n (l,v)).bind k=k (l.any fun x=>x.VNI==v):=by
 have:c_tenant_has_Tenant_uint32.S n (l,v)=some (l.any fun x=>x.VNI==v):=contains_hasVNI n l v hn hs _
 rw[this];rfl
theorem contains_hasTarget{β:Type}(n:Nat)(l:List Tenant)(v:Int)(hn:l.length<n)(hs:l.length≤4000)(k:c_slices_ContainsFunc_Tenant_Tenant_2.sh.El→Option β):(c_slices_ContainsFunc_Tenant_Tenant_2.S n (l,v)).bind k=k (l.any fun x=>x.Target==v):=by
 have h:c_slices_IndexFunc_Tenant_Tenant_2.S n (l,v)=some (idxOf (fun x=>x.Target==v) l):=by dsimp only[c_slices_IndexFunc_Tenant_Tenant_2,Ctr.of];exact gIdx_b _ (fun _ _=>⟨_,rfl,rfl⟩) n l hn hs
 dsimp only[c_slices_ContainsFunc_Tenant_Tenant_2,Ctr.of];exact gCon_b _ l n h rfl k
theorem has_hasTarget{β:Type}(n:Nat)(l:List Tenant)(v:Int)(hn:l.length<n)(hs:l.length≤4000)(k:c_tenant_has_Tenant_uint32_2.sh.El→Option β):(c_tenant_has_Tenant_uint32_2.S n (l,v)).bind k=k (l.any fun x=>x.Target==v):=by
 have:c_tenant_has_Tenant_uint32_2.S n (l,v)=some (l.any fun x=>x.Target==v):=contains_hasTarget n l v hn hs _
 rw[this];rfl
theorem contains_leafIn{β:Type}(n:Nat)(l:List Int)(f:Fabric)(hn:l.length<n)(hs:l.length≤4000)(k:c_slices_ContainsFunc_int_int.sh.El→Option β):(c_slices_ContainsFunc_int_int.S n (l,f)).bind k=k (l.any fun y=> !(decide (0≤y)&&decide (y<f.Leaves))):=by
 have h:c_slices_IndexFunc_int_int.S n (l,f)=some (idxOf (fun y=> !(decide (0≤y)&&decide (y<f.Leaves))) l):=by dsimp only[c_slices_IndexFunc_int_int,Ctr.of];exact gIdx_b _ (fun n y=>⟨_,(tenant_within n y _ _:c_tenant_checker_segments_1.S n (y,f)=some _),rfl⟩) n l hn hs
 dsimp only[c_slices_ContainsFunc_int_int,Ctr.of];exact gCon_b _ l n h rfl k
theorem contains_bdIn{β:Type}(n:Nat)(l:List Int)(f:Fabric)(hn:l.length<n)(hs:l.length≤4000)(k:c_slices_ContainsFunc_int_int_2.sh.El→Option β):(c_slices_ContainsFunc_int_int_2.S n (l,f)).bind k=k (l.any fun y=> !(decide (0≤y)&&decide (y<(f.BDs.length:Int)))):=by
 have h:c_slices_IndexFunc_int_int_2.S n (l,f)=some (idxOf (fun y=> !(decide (0≤y)&&decide (y<(f.BDs.length:Int)))) l):=by dsimp only[c_slices_IndexFunc_int_int_2,Ctr.of];exact gIdx_b _ (fun n y=>⟨_,(tenant_within n y _ _:c_tenant_checker_segments_2.S n (y,f)=some _),rfl⟩) n l hn hs
 dsimp only[c_slices_ContainsFunc_int_int_2,Ctr.of];exact gCon_b _ l n h rfl k
theorem index_int{β:Type}(n:Nat)(l:List Int)(v:Int)(hn:l.length<n)(hs:l.length≤4000)(k:c_slices_Index_int_int.sh.El→Option β):
 (c_slices_Index_int_int.S n (l,v)).bind k=k (idxOf (fun x:Int=>v==x) l):=by
 have:c_slices_Index_int_int.S n (l,v)=some (idxOf (fun x:Int=>v==x) l):=by
  show(g_slices_Index_int_int l v).run n=_;simp only[g_slices_Index_int_int,G.run,tsOk,lenO_bind,idxO_bind,if_true,if_true];refine bind_index l (fun x:Int=>v==x) hn (fun i x hx=>?_) ?_ ?_
  ·have hi:=(List.getElem?_eq_some_iff.1 hx).1;have hlt:(i:Int)<l.length:=by omega
   simp only[at?_nat,hx,Option.bind_some,hlt,decide_true,if_true,wrap_nat (show i<9223372036854775807 by omega)]
   split<;>rfl
  ·simp;rfl
  ·unfold idxOf;cases l.findIdx? (fun x:Int=>v==x)<;>rfl
 rw[this];rfl
theorem contains_int{β:Type}(n:Nat)(l:List Int)(v:Int)(hn:l.length<n)(hs:l.length≤4000)(k:c_slices_Contains_int_int.sh.El→Option β):
 (c_slices_Contains_int_int.S n (l,v)).bind k=k (l.any (fun x:Int=>v==x)):=by
 have:c_slices_Contains_int_int.S n (l,v)=some (l.any (fun x:Int=>v==x)):=by
  show(g_slices_Contains_int_int l v).run n=_;simp only[g_slices_Contains_int_int,G.run,tsOk,if_true];rw[index_int n l v hn hs];simp only[idxOf_any];rfl
 rw[this];rfl
end Go.L
namespace Go.L
open Go.AM
theorem shlO_bind{β:Type}(k1 k2:Go.IntKind)(a b:Int)(k:Unit→Option β):(shlO k1 k2 a b).run.bind k=if decide (0≤b)=true then k ()else none:=by
 show(if decide (0≤b)=true then some ()else none).bind k=_
 split<;>rfl
def okPre(p:Prefix):Bool:=decide (0≤p.Len)&&decide (p.Len≤32)
def band(a b:Int):Int:=IntKind.wrap .u32 (((BitVec.ofInt 32 a)&&& (BitVec.ofInt 32 b)).toNat:Int)
def bor(a b:Int):Int:=IntKind.wrap .u32 (((BitVec.ofInt 32 a)||| (BitVec.ofInt 32 b)).toNat:Int)
def bxor(a b:Int):Int:=IntKind.wrap .u32 (((BitVec.ofInt 32 a) ^^^ (BitVec.ofInt 32 b)).toNat:Int)
def maskP(n:Int):Int:=IntKind.wrap .u32 ((4294967295:Int)*((2:Int) ^ (min (Int.toNat (IntKind.wrap .i64 ((32:Int) - n))) (IntKind.bits .u32))))
def lowP(n:Int):Int:=IntKind.wrap .u32 ((IntKind.wrap .u32 ((1:Int)*((2:Int) ^ (min (Int.toNat (IntKind.wrap .i64 ((32:Int) - n))) (IntKind.bits .u32))))) - (1:Int))
def maskR(n:Int):Int:=IntKind.wrap .u32 (((BitVec.ofInt 32 4294967295) ^^^ (BitVec.ofInt 32 (lowP n))).toNat:Int)
theorem mask_eq{n:Int}(h0:0≤n)(h1:n≤32):maskR n=maskP n:=by
 have key:((List.range 33).all fun k=>maskR (k:Int)==maskP (k:Int))=true:=by decide+kernel
 have:=List.all_eq_true.1 key n.toNat (List.mem_range.2 (by omega))
 grind
def cleanS(p:Prefix):Bool:=okPre p&&(band p.IP (maskP p.Len)==p.IP)
def containsS(p:Prefix)(ip:Int):Bool:=okPre p&&(band (bxor p.IP ip) (maskP p.Len)==0)
def innerS(p:Prefix)(ip:Int):Bool:=containsS p ip&&(ip != p.IP&&ip != bor p.IP (lowP p.Len))
section
variable {β:Type} (n:Nat)
theorem addr_valid(p:Prefix)(k:c_addr_valid.sh.El→Option β):(c_addr_valid.S n p).bind k=k (okPre p):=by
 have:c_addr_valid.S n p=some (okPre p):=by
  show(g_addr_valid p).run n=_;simp only[g_addr_valid,G.run,tsOk,okPre,ge_iff_le];by_cases h:0≤p.Len<;>simp[h]<;>rfl
 rw[this];rfl
theorem wrap32{x:Int}(h0:0≤x)(h1:x≤32):IntKind.wrap .i64 (32 - x)=32 - x:=wrap_i64 (by omega) (by omega)
theorem addr_mask(x:Int)(h0:0≤x)(h1:x≤32)(k:c_addr_mask.sh.El→Option β):(c_addr_mask.S n x).bind k=k (maskP x):=by
 have:c_addr_mask.S n x=some (maskP x):=by
  show(g_addr_mask x).run n=_;simp only[g_addr_mask,G.run,tsOk,shlO_bind,maskP];rw[if_pos (by rw[wrap32 h0 h1];simp;omega)]
  rfl
 rw[this];rfl
theorem tenant_clean(p:Prefix)(k:c_tenant_clean.sh.El→Option β):(c_tenant_clean.S n p).bind k=k (cleanS p):=by
 have:c_tenant_clean.S n p=some (cleanS p):=by
  show(g_tenant_clean p).run n=_;have hc:∀{γ:Type} (k:c_addr_Clean.sh.El→Option γ),(c_addr_Clean.S n p).bind k=if okPre p=true then k (⟨band p.IP (maskP p.Len),p.Len⟩,0)else k (⟨0,0⟩,2):=by
   intro γ k;have:c_addr_Clean.S n p=some (if okPre p=true then(⟨band p.IP (maskP p.Len),p.Len⟩,0)else(⟨0,0⟩,2)):=by
    show(g_addr_Clean p).run n=_;simp only[g_addr_Clean,G.run,tsOk,addr_valid];by_cases h:okPre p=true
    ·simp only[h,Bool.not_true,Bool.false_eq_true,if_false,if_true];simp only[okPre,Bool.and_eq_true,decide_eq_true_eq]at h;rw[addr_mask n p.Len h.1 h.2];rfl
    ·simp[h];rfl
   rw[this];split<;>rfl
  simp only[g_tenant_clean,G.run,tsOk,hc,cleanS];by_cases h:okPre p=true<;>simp[h]<;>rfl
 rw[this];rfl
theorem addr_Contains(p:Prefix)(ip:Int)(k:c_addr_Contains.sh.El→Option β):(c_addr_Contains.S n (p,ip)).bind k=k (containsS p ip):=by
 have:c_addr_Contains.S n (p,ip)=some (containsS p ip):=by
  show(g_addr_Contains p ip).run n=_;simp only[g_addr_Contains,G.run,tsOk,addr_valid,containsS];by_cases h:okPre p=true
  ·simp only[h,if_true,Bool.true_and];simp only[okPre,Bool.and_eq_true,decide_eq_true_eq]at h;rw[addr_mask n p.Len h.1 h.2];rfl
  ·simp[h];rfl
 rw[this];rfl
theorem tenant_inner(p:Prefix)(ip:Int)(hp:okPre p=true)(k:c_tenant_inner.sh.El→Option β):(c_tenant_inner.S n (p,ip)).bind k=k (innerS p ip):=by
 have:c_tenant_inner.S n (p,ip)=some (innerS p ip):=by
  show(g_tenant_inner p ip).run n=_;have h:=hp;simp only[okPre,Bool.and_eq_true,decide_eq_true_eq]at h;simp only[g_tenant_inner,G.run,tsOk,addr_Contains,shlO_bind];rw[if_pos (by rw[wrap32 h.1 h.2];simp;omega)]
  simp only[innerS,if_true];by_cases h1:containsS p ip=true
  ·by_cases h2:(ip != p.IP)=true
   ·simp only[h1,h2,if_true,Bool.true_and];rfl
   ·simp only[h1,h2,if_true,Bool.true_and,Bool.false_eq_true,if_false];simp at h2;simp[h2];rfl
  ·simp[h1];rfl
 rw[this];rfl
end
end Go.L
namespace Go.L
open Go.AM
def sTenants:ByteArray:=⟨⟨[116,101,110,97,110,116,115]⟩⟩
def sLeaks:ByteArray:=⟨⟨[108,101,97,107,115]⟩⟩
def tenantE(f1 f2:List Bool)(i:Nat)(x:Tenant):Int:=
 if decide (x.VNI<1)=true then 2 else if decide (16777215<x.VNI)=true then 2 else if(x.Target==0)=true then 2
 else if f1.getD i false=true then 11 else if f2.getD i false=true then 11 else 0
theorem ck_tenants(n:Nat)(f:Fabric)(hn:f.Tenants.length<n):
 c_tenant_checker_tenants.S n ⟨f⟩=some (outcome sTenants 16 (decide (16<(f.Tenants.length:Int))) (firstErr (tenantE (flagsF (fun x:Tenant=>x.VNI) [] f.Tenants) (flagsF (fun x:Tenant=>x.Target) [] f.Tenants)) 0 f.Tenants)):=by
 show(g_tenant_checker_tenants ⟨f⟩).run n=_;simp only[g_tenant_checker_tenants,G.run,tsOk,lenO_bind,tenant_fail,Sum.elim,gt_iff_lt,decide_eq_true_eq];by_cases hfull:(16:Int)<f.Tenants.length
 ·simp[hfull,outcome];rfl
 ·simp only[hfull,if_false,decide_false];rw[repeats_Tenant_uint32 n f.Tenants hn (by omega)]
  rw[repeats_Tenant_uint32_2 n f.Tenants hn (by omega)]
  simp only[G.run,tsOk,lenO_bind,if_true,idxO_bind,tenant_within,tenant_outside,tenant_fail,Sum.elim];generalize hf1:flagsF (fun x:Tenant=>x.VNI) [] f.Tenants=f1
  generalize hf2:flagsF (fun x:Tenant=>x.Target) [] f.Tenants=f2
  refine bind_first f.Tenants (tenantE f1 f2) (fun i e=>Sum.inl (e,sTenants,(i:Int))) (Sum.inr ()) hn (fun i x hx=>?_) ?_ ?_
  ·have hi:=(List.getElem?_eq_some_iff.1 hx).1;obtain⟨y,hy⟩:∃y,f1[i]? =some y:=⟨_,List.getElem?_eq_getElem (by rw[← hf1,flagsF_len];exact hi)⟩
   obtain⟨z,hz⟩:∃y,f2[i]? =some y:=⟨_,List.getElem?_eq_getElem (by rw[← hf2,flagsF_len];exact hi)⟩
   have hlt:(i:Int)<f.Tenants.length:=by omega
   simp only[at?_nat,hx,Option.bind_some,hlt,decide_true,if_true,hy,hz,tenantE,List.getD_eq_getElem?_getD,Option.getD_some,wrap_nat (show i<9223372036854775807 by omega)]
   clear hf1 hf2 hy hz hx
   repeat' split
   all_goals first |rfl | (simp_all<;>omega)
  ·simp;rfl
  ·cases firstErr (tenantE f1 f2) 0 f.Tenants with
   |none=>rfl
   |some p=>rfl
def leakE(f:Fabric)(f1:List Bool)(i:Nat)(x:Leak):Int:=
 if(!(decide (0≤x.From)&&decide (x.From<(f.Tenants.length:Int))))=true then 2 else if(!(decide (0≤x.To)&&decide (x.To<(f.Tenants.length:Int))))=true then 2
 else if(x.From==x.To)=true then 3 else if(!cleanS x.Prefix)=true then 3 else if f1.getD i false=true then 11 else 0
theorem ck_leaks(n:Nat)(f:Fabric)(hn:f.Leaks.length<n):
 c_tenant_checker_leaks.S n ⟨f⟩=some (outcome sLeaks 256 (decide (256<(f.Leaks.length:Int))) (firstErr (leakE f (flagsF (fun x:Leak=>x) [] f.Leaks)) 0 f.Leaks)):=by
 show(g_tenant_checker_leaks ⟨f⟩).run n=_;simp only[g_tenant_checker_leaks,G.run,tsOk,lenO_bind,tenant_fail,Sum.elim,gt_iff_lt,decide_eq_true_eq];by_cases hfull:(256:Int)<f.Leaks.length
 ·simp[hfull,outcome];rfl
 ·simp only[hfull,if_false,decide_false];rw[repeats_Leak_Leak n f.Leaks hn (by omega)]
  simp only[G.run,tsOk,lenO_bind,if_true,idxO_bind,tenant_within,tenant_outside,tenant_fail,Sum.elim,tenant_clean];generalize hf1:flagsF (fun x:Leak=>x) [] f.Leaks=f1
  refine bind_first f.Leaks (leakE f f1) (fun i e=>Sum.inl (e,sLeaks,(i:Int))) (Sum.inr ()) hn (fun i x hx=>?_) ?_ ?_
  ·have hi:=(List.getElem?_eq_some_iff.1 hx).1;obtain⟨y,hy⟩:∃y,f1[i]? =some y:=⟨_,List.getElem?_eq_getElem (by rw[← hf1,flagsF_len];exact hi)⟩
   have hlt:(i:Int)<f.Leaks.length:=by omega
   simp only[at?_nat,hx,Option.bind_some,hlt,decide_true,if_true,hy,leakE,List.getD_eq_getElem?_getD,Option.getD_some,wrap_nat (show i<9223372036854775807 by omega)]
   clear hf1 hy hx
   repeat' split
   all_goals first |rfl | (simp_all<;>omega)
  ·simp;rfl
  ·cases firstErr (leakE f f1) 0 f.Leaks with
   |none=>rfl
   |some p=>rfl
end Go.L
namespace Go.L
open Go.AM
def sFabric:ByteArray:=⟨⟨[102,97,98,114,105,99]⟩⟩
def sTimers:ByteArray:=⟨⟨[116,105,109,101,114,115]⟩⟩
def sHosts:ByteArray:=⟨⟨[104,111,115,116,115]⟩⟩
def out(x lo hi:Int):Bool:=decide (x<lo)||decide (hi<x)
def badFabric(f:Fabric):Bool:=out f.Leaves 1 32||out f.Spines 0 32||decide (32<IntKind.wrap .i64 (f.Leaves+f.Spines))||out f.Elect 0 2||out f.Horizon 0 1||out f.Router 0 1
def badTimers(t:Timers):Bool:=out t.Detect 1 100||out t.Hold 3 1000||out t.Age 1 10000||out t.Restart 0 1000||out t.Moves 1 100||out t.Window 1 10000
theorem ck_fabric(n:Nat)(f:Fabric):c_tenant_checker_fabric.S n ⟨f⟩=some (if badFabric f=true then Sum.inr (2,sFabric,0)else Sum.inl ()):=by
 show(g_tenant_checker_fabric ⟨f⟩).run n=_;simp only[g_tenant_checker_fabric,G.run,tsOk,tenant_outside,tenant_fail,Sum.elim,if_true];unfold badFabric;have e:∀x lo hi,(decide (x<lo)||decide (hi<x))=out x lo hi:=fun _ _ _=>rfl
 simp only[e,gt_iff_lt,Bool.or_eq_true];cases out f.Leaves 1 32<;>cases out f.Spines 0 32<;>cases decide (32<IntKind.wrap .i64 (f.Leaves+f.Spines))<;>cases out f.Elect 0 2<;>cases out f.Horizon 0 1<;>cases out f.Router 0 1<;>rfl
theorem ck_timers(n:Nat)(f:Fabric):c_tenant_checker_timers.S n ⟨f⟩=some (if badTimers f.Timers=true then Sum.inr (2,sTimers,0)else Sum.inl ()):=by
 show(g_tenant_checker_timers ⟨f⟩).run n=_;simp only[g_tenant_checker_timers,G.run,tsOk,tenant_outside,tenant_fail,Sum.elim,if_true];unfold badTimers;have e:∀x lo hi,(decide (x<lo)||decide (hi<x))=out x lo hi:=fun _ _ _=>rfl
 simp only[e,gt_iff_lt,Bool.or_eq_true];cases out f.Timers.Detect 1 100<;>cases out f.Timers.Hold 3 1000<;>cases out f.Timers.Age 1 10000<;>cases out f.Timers.Restart 0 1000<;>cases out f.Timers.Moves 1 100<;>cases out f.Timers.Window 1 10000<;>rfl
def castM(m:Int):Bool:=decide (m≤281474976710655)&&(IntKind.wrap .u64 (((BitVec.ofInt 64 (Int.fdiv m ((2:Int) ^ (min (Int.toNat (40:Int)) (IntKind.bits .u64)))))&&& (BitVec.ofInt 64 1)).toNat:Int) != 0)
def routerM(m:Int):Bool:= !decide (m<2199023255552)&& !decide (m≥2199023255584)
def addressedS(b:BD)(ip:Int):Bool:=ip==0||(b.Gateway != 0&&(ip != b.Gateway&&innerS b.Subnet ip))
section
variable {β:Type} (n:Nat)
theorem addr_Multicast(m:Int)(k:c_addr_Multicast.sh.El→Option β):(c_addr_Multicast.S n m).bind k=k (castM m):=by
 have:c_addr_Multicast.S n m=some (castM m):=by
  show(g_addr_Multicast m).run n=_;simp only[g_addr_Multicast,G.run,tsOk,castM];by_cases h:m≤281474976710655
  ·simp only[h,decide_true,if_true,Bool.true_and];rfl
  ·simp only[h,decide_false,if_false,Bool.false_and,Bool.false_eq_true];rfl
 rw[this];rfl
theorem addr_RouterNode(m:Int)(k:c_addr_RouterNode.sh.El→Option β):(c_addr_RouterNode.S n m).bind k=if routerM m=true then k (IntKind.wrap .i64 (IntKind.wrap .u64 (m - 2199023255552)),true)else k (0,false):=by
 have:c_addr_RouterNode.S n m=some (if routerM m=true then(IntKind.wrap .i64 (IntKind.wrap .u64 (m - 2199023255552)),true)else(0,false)):=by
  show(g_addr_RouterNode m).run n=_;simp only[g_addr_RouterNode,G.run,tsOk,routerM];by_cases h:m<2199023255552
  ·simp[h];rfl
  ·by_cases h2:m≥2199023255584
   ·simp[h,h2];rfl
   ·simp only[h,h2,decide_false,Bool.not_false,Bool.and_self,Bool.false_eq_true,if_false,if_true];rfl
 rw[this];split<;>rfl
theorem tenant_addressed(b:BD)(ip:Int)(hb:b.Gateway≠0→okPre b.Subnet=true)(k:c_tenant_addressed.sh.El→Option β):(c_tenant_addressed.S n (b,ip)).bind k=k (addressedS b ip):=by
 have:c_tenant_addressed.S n (b,ip)=some (addressedS b ip):=by
  show(g_tenant_addressed b ip).run n=_;simp only[g_tenant_addressed,G.run,tsOk,addressedS];cases e1:(ip==0)with
  |true=>simp only[if_true,Bool.true_or];rfl
  |false=>
   cases e2:(b.Gateway != 0)with
   |false=>simp only[Bool.false_eq_true,if_false,Bool.false_or,Bool.false_and];rfl
   |true=>
    cases e3:(ip != b.Gateway)with
    |false=>simp only[Bool.false_eq_true,if_false,if_true,Bool.false_or,Bool.true_and,Bool.false_and];rfl
    |true=>
     simp only[Bool.false_eq_true,if_false,if_true,Bool.false_or,Bool.true_and];rw[tenant_inner n b.Subnet ip (hb (by simpa using e2))];rfl
 rw[this];rfl
end
def bdAt(f:Fabric)(b:Int):BD:=(at? f.BDs b).getD ⟨0,0,0,⟨0,0⟩,0⟩
def segBDs(f:Fabric)(s:Int):List Int:=((at? f.Segments s).map (·.BDs)).getD []
theorem okSub(n:Int)(h:0≤n)(h2:n≤4000):IntKind.wrap .i64 (n - 1)=n - 1:=wrap_i64 (by omega) (by omega)
def hostE(f:Fabric)(f1 f2:List Bool)(i:Nat)(h:Host):Int:=
 if(h.MAC==0)=true then 2 else if decide (281474976710655<h.MAC)=true then 2 else if castM h.MAC=true then 2
 else if(!(decide (0≤h.BD)&&decide (h.BD<(f.BDs.length:Int))))=true then 2 else if out h.Segment (-1) ((f.Segments.length:Int) - 1)=true then 2
 else if(h.Segment != -1&& !(segBDs f h.Segment).any fun x=>h.BD==x)=true then 8
 else if(h.MAC==1577058561)=true then 3 else if routerM h.MAC=true then 3 else if(!addressedS (bdAt f h.BD) h.IP)=true then 3
 else if f1.getD i false=true then 11 else if(h.IP != 0&&f2.getD i false)=true then 11 else 0
theorem ck_hosts(n:Nat)(f:Fabric)(hn:f.Hosts.length<n)(hseg:f.Segments.length≤64)(hsn:∀s∈f.Segments,s.BDs.length<n∧s.BDs.length≤4000)(hsub:∀b∈f.BDs,b.Gateway≠0→okPre b.Subnet=true):
 c_tenant_checker_hosts.S n ⟨f⟩=some (outcome sHosts 128 (decide (128<(f.Hosts.length:Int))) (firstErr (hostE f (flagsF (fun x:Host=>(⟨x.BD,x.MAC⟩:tenant_place)) [] f.Hosts) (flagsF (fun x:Host=>(⟨x.BD,IntKind.wrap .u64 x.IP⟩:tenant_place)) [] f.Hosts)) 0 f.Hosts)):=by
 show(g_tenant_checker_hosts ⟨f⟩).run n=_;simp only[g_tenant_checker_hosts,G.run,tsOk,lenO_bind,tenant_fail,Sum.elim,gt_iff_lt,decide_eq_true_eq];by_cases hfull:(128:Int)<f.Hosts.length
 ·simp[hfull,outcome];rfl
 ·simp only[hfull,if_false,decide_false];rw[repeats_Host_tenant_place n f.Hosts hn (by omega)]
  rw[repeats_Host_tenant_place_2 n f.Hosts hn (by omega)]
  simp only[G.run,tsOk,lenO_bind,if_true,idxO_bind,tenant_within,tenant_outside,tenant_fail,Sum.elim,addr_Multicast,addr_RouterNode];generalize hf1:flagsF (fun x:Host=>(⟨x.BD,x.MAC⟩:tenant_place)) [] f.Hosts=f1
  generalize hf2:flagsF (fun x:Host=>(⟨x.BD,IntKind.wrap .u64 x.IP⟩:tenant_place)) [] f.Hosts=f2
  refine bind_first f.Hosts (hostE f f1 f2) (fun i e=>Sum.inl (e,sHosts,(i:Int))) (Sum.inr ()) hn (fun i x hx=>?_) ?_ ?_
  ·have hi:=(List.getElem?_eq_some_iff.1 hx).1;obtain⟨y,hy⟩:∃y,f1[i]? =some y:=⟨_,List.getElem?_eq_getElem (by rw[← hf1,flagsF_len];exact hi)⟩
   obtain⟨z,hz⟩:∃y,f2[i]? =some y:=⟨_,List.getElem?_eq_getElem (by rw[← hf2,flagsF_len];exact hi)⟩
   have hlt:(i:Int)<f.Hosts.length:=by omega
   have hw:=okSub (f.Segments.length:Int) (by omega) (by omega)
   simp only[at?_nat,hx,Option.bind_some,hlt,decide_true,if_true,hy,hz,hostE,List.getD_eq_getElem?_getD,Option.getD_some,wrap_nat (show i<9223372036854775807 by omega),hw]
   clear hf1 hf2 hy hz hx;cases(x.MAC==0)
   case true=>rfl
   by_cases hm:(281474976710655:Int)<x.MAC
   ·simp only[hm,if_true,decide_true,Bool.false_eq_true,if_false];rfl
   simp only[hm,if_false,decide_false,Bool.false_eq_true];cases castM x.MAC
   case true=>rfl
   cases hbd:(decide (0≤x.BD)&&decide (x.BD<(f.BDs.length:Int)))
   case false=>rfl
   have e:(decide (x.Segment< -1)||decide ((f.Segments.length:Int) - 1<x.Segment))=out x.Segment (-1) ((f.Segments.length:Int) - 1):=rfl;simp only[e];cases hsg:out x.Segment (-1) ((f.Segments.length:Int) - 1)
   case true=>rfl
   obtain⟨b,hb⟩:∃b,at? f.BDs x.BD=some b:=by
    simp only[Bool.and_eq_true,decide_eq_true_eq]at hbd;exact⟨_,by unfold at?;rw[if_pos hbd.1];exact List.getElem?_eq_getElem (by omega)⟩
   have hbm:b∈f.BDs:=by
    unfold at? at hb;split at hb
    ·exact List.mem_of_getElem? hb
    ·cases hb
   have hbd2:bdAt f x.BD=b:=by simp[bdAt,hb]
   simp only[Bool.not_true,Bool.false_eq_true,if_false,hb,hbd2,Option.bind_some,tenant_addressed n b x.IP (hsub b hbm)];cases hs1:(x.Segment != -1)
   ·simp only[Bool.false_and,Bool.false_eq_true,if_false];cases(x.MAC==1577058561)<;>cases routerM x.MAC<;>cases addressedS b x.IP<;>cases y<;>cases(x.IP != 0)<;>cases z<;>rfl
   ·obtain⟨s,hs⟩:∃s,at? f.Segments x.Segment=some s:=by
     simp only[out,Bool.or_eq_false_iff,decide_eq_false_iff_not]at hsg;have:x.Segment≠ -1:=by simpa using hs1
     exact⟨_,by unfold at?;rw[if_pos (by omega)];exact List.getElem?_eq_getElem (by omega)⟩
    have hsm:s∈f.Segments:=by
     unfold at? at hs;split at hs
     ·exact List.mem_of_getElem? hs
     ·cases hs
    have hsb:segBDs f x.Segment=s.BDs:=by simp[segBDs,hs]
    simp only[if_true,hs,Option.bind_some,hsb,Bool.true_and,contains_int n s.BDs x.BD (hsn s hsm).1 (hsn s hsm).2];cases(s.BDs.any fun y=>x.BD==y)<;>cases(x.MAC==1577058561)<;>cases routerM x.MAC<;>cases addressedS b x.IP<;>cases y<;>cases(x.IP != 0)<;>cases z<;>rfl
  ·simp;rfl
  ·cases firstErr (hostE f f1 f2) 0 f.Hosts with
   |none=>rfl
   |some p=>rfl
end Go.L
namespace Go.L
open Go.AM
def overS(t ip len:Int)(x:BD):Bool:=x.Tenant==t&&(x.Gateway != 0&&(containsS x.Subnet ip||containsS ⟨ip,len⟩ x.Subnet.IP))
theorem over_b(n:Nat)(x:BD)(x2 x3 x4 x5 x6 x7:Int):c_tenant_checker_domains_1.S n (x,x2,x3,x4,x5,x6,x7)=some (overS x2 x5 x6 x):=by
 show(g_tenant_checker_domains_1 x x2 x3 x4 x5 x6 x7).run n=_;simp only[g_tenant_checker_domains_1,G.run,tsOk,addr_Contains,overS,if_true];cases(x.Tenant==x2)<;>cases(x.Gateway != 0)<;>cases containsS x.Subnet x5<;>cases containsS ⟨x5,x6⟩ x.Subnet.IP<;>rfl
theorem contains_over{β:Type}(n:Nat)(l:List BD)(x2 x3 x4 x5 x6 x7:Int)(hn:l.length<n)(hs:l.length≤4000)(k:c_slices_ContainsFunc_BD_BD.sh.El→Option β):(c_slices_ContainsFunc_BD_BD.S n (l,x2,x3,x4,x5,x6,x7)).bind k=k (l.any (overS x2 x5 x6)):=by
 have h:c_slices_IndexFunc_BD_BD.S n (l,x2,x3,x4,x5,x6,x7)=some (idxOf (overS x2 x5 x6) l):=by dsimp only[c_slices_IndexFunc_BD_BD,Ctr.of];exact gIdx_b _ (fun n y=>⟨_,over_b n y x2 x3 x4 x5 x6 x7,rfl⟩) n l hn hs
 dsimp only[c_slices_ContainsFunc_BD_BD,Ctr.of];exact gCon_b _ l n h rfl k
theorem slcO_bind{X β:Type}(l:List X)(e:X→List AVal)(m:Nat)(i:Nat)(hi:i≤l.length)(k:Nat×Nat→Option β):(slcO l e m none (some (i:Int))).run.bind k=k (0,i):=by
 grind [slcO,boundO]
def sDomains:ByteArray:=⟨⟨[100,111,109,97,105,110,115]⟩⟩
def domE(f:Fabric)(f1 f2:List Bool)(i:Nat)(b:BD):Int:=
 if(!(decide (0≤b.Tenant)&&decide (b.Tenant<(f.Tenants.length:Int))))=true then 2 else if decide (b.VNI<1)=true then 2 else if decide (16777215<b.VNI)=true then 2 else if(b.Target==0)=true then 2
 else if f1.getD i false=true then 11 else if f2.getD i false=true then 11 else if(f.Tenants.any fun x=>x.VNI==b.VNI)=true then 11 else if(f.Tenants.any fun x=>x.Target==b.Target)=true then 11
 else if(b.Gateway==0)=true then(if(!(b.Subnet.IP==0&&(b.Subnet.Len==0&&true)))=true then 3 else 0)
 else if(!cleanS b.Subnet)=true then 3 else if out b.Subnet.Len 8 30=true then 3 else if(!innerS b.Subnet b.Gateway)=true then 3
 else if((f.BDs.take i).any (overS b.Tenant b.Subnet.IP b.Subnet.Len))=true then 11 else 0
theorem ck_domains(n:Nat)(f:Fabric)(hn:f.BDs.length<n)(hnt:f.Tenants.length<n)(ht:f.Tenants.length≤4000):
 c_tenant_checker_domains.S n ⟨f⟩=some (outcome sDomains 32 (decide (32<(f.BDs.length:Int))) (firstErr (domE f (flagsF (fun x:BD=>x.VNI) [] f.BDs) (flagsF (fun x:BD=>x.Target) [] f.BDs)) 0 f.BDs)):=by
 show(g_tenant_checker_domains ⟨f⟩).run n=_;simp only[g_tenant_checker_domains,G.run,tsOk,lenO_bind,tenant_fail,Sum.elim,gt_iff_lt,decide_eq_true_eq];by_cases hfull:(32:Int)<f.BDs.length
 ·simp[hfull,outcome];rfl
 ·simp only[hfull,if_false,decide_false];rw[repeats_BD_uint32 n f.BDs hn (by omega)]
  rw[repeats_BD_uint32_2 n f.BDs hn (by omega)]
  simp only[G.run,tsOk,lenO_bind,if_true,idxO_bind,tenant_within,tenant_outside,tenant_fail,Sum.elim,tenant_clean];generalize hf1:flagsF (fun x:BD=>x.VNI) [] f.BDs=f1
  generalize hf2:flagsF (fun x:BD=>x.Target) [] f.BDs=f2
  refine bind_first f.BDs (domE f f1 f2) (fun i e=>Sum.inl (e,sDomains,(i:Int))) (Sum.inr ()) hn (fun i x hx=>?_) ?_ ?_
  ·have hi:=(List.getElem?_eq_some_iff.1 hx).1;obtain⟨y,hy⟩:∃y,f1[i]? =some y:=⟨_,List.getElem?_eq_getElem (by rw[← hf1,flagsF_len];exact hi)⟩
   obtain⟨z,hz⟩:∃y,f2[i]? =some y:=⟨_,List.getElem?_eq_getElem (by rw[← hf2,flagsF_len];exact hi)⟩
   have hlt:(i:Int)<f.BDs.length:=by omega
   simp only[at?_nat,hx,Option.bind_some,hlt,decide_true,if_true,hy,hz,domE,List.getD_eq_getElem?_getD,Option.getD_some,wrap_nat (show i<9223372036854775807 by omega)]
   clear hf1 hf2 hy hz hx;rw[has_hasVNI n f.Tenants x.VNI hnt ht];rw[has_hasTarget n f.Tenants x.Target hnt ht];simp only[G.run,tsOk,lenO_bind,if_true,tenant_fail,Sum.elim,tenant_clean,tenant_outside,Bool.false_eq_true,if_false];cases(decide (0≤x.Tenant)&&decide (x.Tenant<(f.Tenants.length:Int)))
   case false=>rfl
   by_cases h1:x.VNI<1
   ·simp only[h1,if_true,decide_true];rfl
   by_cases h2:(16777215:Int)<x.VNI
   ·simp only[h1,h2,if_true,decide_true,if_false,decide_false,Bool.false_eq_true];rfl
   simp only[h1,h2,if_false,decide_false,Bool.false_eq_true];cases(x.Target==0)
   case true=>rfl
   cases y
   case true=>rfl
   cases z
   case true=>rfl
   cases(f.Tenants.any fun y=>y.VNI==x.VNI)
   case true=>rfl
   cases(f.Tenants.any fun y=>y.Target==x.Target)
   case true=>rfl
   cases(x.Gateway==0)
   case true=>cases(x.Subnet.IP==0&&(x.Subnet.Len==0&&true))<;>rfl
   cases hc:cleanS x.Subnet
   case false=>rfl
   have hok:okPre x.Subnet=true:=by
    simp only[cleanS,Bool.and_eq_true]at hc;exact hc.1
   simp only[tenant_inner n x.Subnet x.Gateway hok,slcO_bind f.BDs eBD 6 i (by omega),List.drop_zero]
   rw[contains_over n (f.BDs.take i) x.Tenant x.VNI x.Target x.Subnet.IP x.Subnet.Len x.Gateway (by simp;omega) (by simp;omega)]
   have e:(decide (x.Subnet.Len<8)||decide (30<x.Subnet.Len))=out x.Subnet.Len 8 30:=rfl;simp only[e];cases out x.Subnet.Len 8 30<;>cases innerS x.Subnet x.Gateway<;>cases(f.BDs.take i).any (overS x.Tenant x.Subnet.IP x.Subnet.Len)<;>rfl
  ·simp;rfl
  ·cases firstErr (domE f f1 f2) 0 f.BDs with
   |none=>rfl
   |some p=>rfl
end Go.L
namespace Go.L
open Go.AM
def ascB(l:List Int):Bool:=(l.zip l.tail).all fun p=>decide (p.1<p.2)
theorem ascE(l:List (Int×Int))(j:Nat):(match firstErr (fun _ (p:Int×Int)=>if p.2≤p.1 then 1 else 0) j l with |none=>some true |some (_,_)=>some false)=some (l.all fun p=>decide (p.1<p.2)):=by
 induction l generalizing j with
 |nil=>rfl
 |cons p ps ih=>
  grind [firstErr]
theorem tenant_ascending{β:Type}(n:Nat)(l:List Int)(hn:l.length<n)(hs:l.length≤4000)(k:c_tenant_ascending.sh.El→Option β):(c_tenant_ascending.S n l).bind k=k (ascB l):=by
 have:c_tenant_ascending.S n l=some (ascB l):=by
  show(g_tenant_ascending l).run n=_;simp only[g_tenant_ascending,G.run,tsOk,lenO_bind,idxO_bind,if_true];have hzl:(l.zip l.tail).length=l.length - 1:=by simp
  refine Eq.trans (bind_firstS (fun i=>((i:Int)+1)) (l.zip l.tail) (fun _ (p:Int×Int)=>if p.2≤p.1 then 1 else 0) (fun _ _=>some false) (some true) (by omega) (fun i x hx hp hE=>?_) (fun i x hx hp hE=>?_) (fun hp=>?_)) (ascE (l.zip l.tail) 0)
  ·have hi:=(List.getElem?_eq_some_iff.1 hx).1;rw[hzl]at hi;have h1:l[i]? =some x.1:=by
    rw[List.getElem?_zip_eq_some]at hx;exact hx.1
   have h2:l[i+1]? =some x.2:=by
    rw[List.getElem?_zip_eq_some]at hx;simpa using hx.2
   have hle:x.2≤x.1:=by
    by_cases h:x.2≤x.1
    ·exact h
    ·simp[h]at hE
   have hlt:(i:Int)+1<l.length:=by omega
   have e1:at? l ((i:Int)+1)=some x.2:=by rw[show(i:Int)+1=((i+1:Nat):Int)by omega,at?_nat,h2]
   have e2:at? l (IntKind.wrap .i64 ((i:Int)+1 - 1))=some x.1:=by
    rw[wrap_i64 (by omega) (by omega),show(i:Int)+1 - 1=(i:Int)by omega,at?_nat,h1]
   refine⟨.inl (),?_,rfl⟩;grind
  ·grind [at?,at?_nat,wrap_i64]
  ·refine⟨.inr (),?_,rfl⟩;grind
 rw[this];rfl
def bumpL(p:List Int):List Int→List Int
 | []=>p
 |x::xs=>bumpL (p.set x.toNat (p[x.toNat]?.getD 0+1)) xs
theorem bumpL_len:∀(l p:List Int),(bumpL p l).length=p.length
 | [],_=>rfl
 |x::xs,p=>by simp[bumpL,bumpL_len xs]
theorem bumpL_snoc:∀(l p:List Int) (x:Int),bumpL p (l++[x])=(bumpL p l).set x.toNat ((bumpL p l)[x.toNat]?.getD 0+1)
 | [],_,_=>rfl
 |y::l,p,x=>by simp only[List.cons_append,bumpL];exact bumpL_snoc l _ x
theorem bumpL_get:∀(l p:List Int) (m:Nat),(∀x∈l,0≤x)→l.Nodup→(bumpL p l)[m]? =(p[m]?).map fun v=>if(m:Int)∈l then v+1 else v
 | [],p,m,_,_=>by simp[bumpL]
 |x::xs,p,m,h0,hd=>by
  have hx:=h0 x (by simp)
  have hd':=List.nodup_cons.1 hd;simp only[bumpL];rw[bumpL_get xs _ m (fun y hy=>h0 y (by simp[hy])) hd'.2]
  grind
def portsOf(l:List Segment):List Int:=(List.range 32).map fun m=>((l.countP fun s=>s.Leaves.contains (m:Int):Nat):Int)
theorem portsOf_nil:portsOf []=List.replicate 32 0:=by decide
theorem portsOf_get(l:List Segment){m:Nat}(h:m<32):(portsOf l)[m]? =some ((l.countP fun s=>s.Leaves.contains (m:Int):Nat):Int):=by
 simp[portsOf,h]
theorem portsOf_len(l:List Segment):(portsOf l).length=32:=by simp[portsOf]
theorem portsOf_snoc(l:List Segment)(s:Segment)(h0:∀x∈s.Leaves,0≤x)(hd:s.Leaves.Nodup):bumpL (portsOf l) s.Leaves=portsOf (l++[s]):=by
 apply List.ext_getElem?;intro m;rw[bumpL_get _ _ m h0 hd];by_cases h:m<32
 ·rw[portsOf_get _ h,portsOf_get _ h];grind
 ·rw[List.getElem?_eq_none (by rw[portsOf_len];omega),List.getElem?_eq_none (by rw[portsOf_len];omega)];rfl
theorem ascB_nodup:∀(l:List Int),ascB l=true→l.Nodup∧∀(i j:Nat) x y,i<j→l[i]? =some x→l[j]? =some y→x<y:=by
 intro l h;have hadj:∀(i:Nat) x y,l[i]? =some x→l[i+1]? =some y→x<y:=by
  intro i x y hx hy;simp only[ascB,List.all_eq_true,decide_eq_true_eq]at h;exact h (x,y) (List.mem_of_getElem? (i:=i) (by grind))
 have hlt:∀(d i:Nat) x y,l[i]? =some x→l[i+d+1]? =some y→x<y:=by
  intro d;induction d with
  |zero=>grind
  |succ d ih=>
   grind
 have hall:∀(i j:Nat) x y,i<j→l[i]? =some x→l[j]? =some y→x<y:=by
  intro i j x y hij hx hy;exact hlt (j - i - 1) i x y hx (by rw[← hy];congr 1;omega)
 refine⟨?_,hall⟩;rw[List.nodup_iff_pairwise_ne,List.pairwise_iff_getElem];intro i j hi hj hij he;have:=hall i j l[i] l[j] hij (List.getElem?_eq_getElem hi) (List.getElem?_eq_getElem hj);omega
end Go.L
namespace Go.L
open Go.AM
theorem idxA_bind{β:Type}(b ver j o n s:Nat)(i:Int)(k:Unit→Option β):(idxA b ver j o n s i).run.bind k=if 0≤i∧i<n then k ()else none:=by
 show(if 0≤i∧i<n then some ()else none).bind k=_
 split<;>rfl
theorem ldA_bind{X β:Type}(l:List X)(c:X→AVal)(b ver sz o:Nat)(k:X→Option β):(ldA l c b ver sz o).run.bind k=(l[o]?).bind k:=rfl
theorem stA_bind{X β:Type}(l:List X)(c:X→AVal)(b ver sz o:Nat)(y:X)(k:Unit→Option β):(stA l c b ver sz o y).run.bind k=if o<l.length then k ()else none:=by
 show(if o<l.length then some ()else none).bind k=_
 split<;>rfl
def sSegments:ByteArray:=⟨⟨[115,101,103,109,101,110,116,115]⟩⟩
def segE(f:Fabric)(i:Nat)(x:Segment):Int:=
 if((x.Leaves.length:Int)==0)=true then 3 else if((x.BDs.length:Int)==0)=true then 3
 else if(x.Leaves.any fun n=> !(decide (0≤n)&&decide (n<f.Leaves)))=true then 2 else if(x.BDs.any fun n=> !(decide (0≤n)&&decide (n<(f.BDs.length:Int))))=true then 2
 else if(!ascB x.Leaves)=true then 10 else if(!ascB x.BDs)=true then 10
 else if(x.Leaves.any fun n=>decide (32<(((f.Segments.take i).countP fun s=>s.Leaves.contains n:Nat):Int)+1))=true then 7 else 0
theorem bind_firstS'{α τ γ ST:Type}{f:ST→Option (ST⊕τ)}{s0:ST}(mk:Nat→ST)(l:List α)(E:Nat→α→Int){k:τ→Option γ}(bad:Nat→Int→Option γ)(fin:Option γ){n:Nat}(h0:s0=mk 0)(hn:l.length<n)
 (hb:∀(i:Nat) x,l[i]? =some x→(∀(j:Nat) y,j<i→l[j]? =some y→E j y=0)→E i x≠0→∃t,f (mk i)=some (.inr t)∧k t=bad i (E i x))
 (hg:∀(i:Nat) x,l[i]? =some x→(∀(j:Nat) y,j<i→l[j]? =some y→E j y=0)→E i x=0→f (mk i)=some (.inl (mk (i+1))))
 (he:(∀(j:Nat) y,l[j]? =some y→E j y=0)→∃t,f (mk l.length)=some (.inr t)∧k t=fin):
 (iterO f n s0).bind k=(match firstErr E 0 l with |none=>fin |some (e,i)=>bad i e):=by
 subst h0;exact bind_firstS mk l E bad fin hn hb hg he
theorem seg_inner{γ:Type}{n:Nat}(L ports:List Int)(i:Int)(hn:L.length<n)(hp:ports.length=32)(h0:∀x∈L,0≤x∧x<32)(hd:L.Nodup)(hs:L.length≤4000)(hv:∀v∈ports,0≤v∧v≤1000)
 {k:(List Int×Int×ByteArray×Int)⊕List Int→Option γ} {bad fin:Option γ} (hbad:∀p,k (.inl (p,7,sSegments,i))=bad) (hfin:k (.inr (bumpL ports L))=fin)
 {f:Int×List Int→Option ((Int×List Int)⊕((List Int×Int×ByteArray×Int)⊕List Int))}
 (hf:∀a,f a=if decide (a.1<(L.length:Int))=true then(at? L a.1).bind fun x=>if 0≤x∧x<(32:Nat)then(a.2[0+x.toNat*1]?).bind fun v=>if 0≤x∧x<(32:Nat)then if 0+x.toNat*1<a.2.length then if 0≤x∧x<(32:Nat)then((a.2.set (0+x.toNat*1) (IntKind.wrap .i64 (v+1)))[0+x.toNat*1]?).bind fun w=>
  if decide (32<w)=true then some (.inr (.inl (a.2.set (0+x.toNat*1) (IntKind.wrap .i64 (v+1)),7,sSegments,i)))else some (.inl (IntKind.wrap .i64 (a.1+1),a.2.set (0+x.toNat*1) (IntKind.wrap .i64 (v+1))))else none else none else none else none
  else some (.inr (.inr a.2))):
 (iterO f n (0,ports)).bind k=if(L.any fun x=>decide (32<ports[x.toNat]?.getD 0+1))=true then bad else fin:=by
 have step:∀(j:Nat) x,L[j]? =some x→∃v,ports[x.toNat]? =some v∧f ((j:Int),bumpL ports (L.take j))=if decide (32<v+1)=true then some (.inr (.inl (bumpL ports (L.take (j+1)),7,sSegments,i)))else some (.inl (((j+1:Nat):Int),bumpL ports (L.take (j+1)))):=by
  intro j x hx;have hj:=(List.getElem?_eq_some_iff.1 hx).1;have hx0:=h0 x (List.mem_of_getElem? hx);have hlt:x.toNat<ports.length:=by omega
  refine⟨ports[x.toNat],List.getElem?_eq_getElem hlt,?_⟩;have hvv:=hv ports[x.toNat] (List.getElem_mem hlt);have htake:L.take (j+1)=L.take j++[x]:=by rw[List.take_add_one,hx];rfl
  have hnot:¬((x.toNat:Nat):Int)∈L.take j:=by
   intro hm;rw[show((x.toNat:Nat):Int)=x by omega]at hm
   obtain⟨q,hq⟩:=List.getElem?_of_mem hm;have hq2:=(List.getElem?_eq_some_iff.1 hq).1;simp only[List.length_take]at hq2;rw[List.getElem?_take,if_pos (by omega)]at hq
   have:=List.nodup_iff_pairwise_ne.1 hd;rw[List.pairwise_iff_getElem]at this;have hne:=this q j (by omega) hj (by omega)
   rw[List.getElem?_eq_getElem (by omega)]at hq hx
   simp only[Option.some.injEq]at hq hx;exact hne (hq.trans hx.symm)
  have hB:(bumpL ports (L.take j))[x.toNat]? =some ports[x.toNat]:=by
   rw[bumpL_get _ _ _ (fun y hy=>(h0 y (List.mem_of_mem_take hy)).1) (hd.sublist (List.take_sublist _ _)),List.getElem?_eq_getElem hlt]
   simp only[Option.map_some,if_neg hnot]
  have hBl:(bumpL ports (L.take j)).length=32:=by rw[bumpL_len,hp]
  have hset:(bumpL ports (L.take j)).set x.toNat (ports[x.toNat]+1)=bumpL ports (L.take (j+1)):=by
   rw[htake,bumpL_snoc,hB];rfl
  have hw:IntKind.wrap .i64 (ports[x.toNat]+1)=ports[x.toNat]+1:=wrap_i64 (by omega) (by omega)
  rw[hf];have hlt2:(j:Int)<(L.length:Int):=by omega
  have hx1:(0:Int)≤x∧x<((32:Nat):Int):=by omega
  simp only[hlt2,decide_true,if_true,at?_nat,hx,Option.bind_some,hx1,and_self,Nat.zero_add,Nat.mul_one,hB,hw,hset];rw[if_pos (by rw[hBl];omega)]
  have hget:(bumpL ports (L.take (j+1)))[x.toNat]? =some (ports[x.toNat]+1):=by
   rw[← hset,List.getElem?_set_self (by rw[hBl];omega)]
  simp only[hget,Option.bind_some,wrap_nat (show j<9223372036854775807 by omega)]
 have main:=bind_firstS (f:=f) (fun j=>((j:Int),bumpL ports (L.take j))) L (fun _ x=>if 32<ports[x.toNat]?.getD 0+1 then 7 else 0) (k:=k) (fun _ _=>bad) fin hn ?_ ?_ ?_
 ·have e:(match firstErr (fun _ x=>if 32<ports[x.toNat]?.getD 0+1 then(7:Int)else 0) 0 L with |none=>fin |some (_,_)=>bad)=if(L.any fun x=>decide (32<ports[x.toNat]?.getD 0+1))=true then bad else fin:=by
   have key:∀(L:List Int) (j:Nat),(match firstErr (fun _ x=>if 32<ports[x.toNat]?.getD 0+1 then(7:Int)else 0) j L with |none=>fin |some (_,_)=>bad)=if(L.any fun x=>decide (32<ports[x.toNat]?.getD 0+1))=true then bad else fin:=by
    intro L;induction L with
    |nil=>intro j;rfl
    |cons x xs ih=>
     grind [firstErr]
   exact key L 0
  rw[← e];exact main
 ·grind
 ·grind
 grind
theorem seg_inner_ex{n:Nat}(L ports:List Int)(i:Int)(hn:L.length<n)(hp:ports.length=32)(h0:∀x∈L,0≤x∧x<32)(hd:L.Nodup)(hs:L.length≤4000)(hv:∀v∈ports,0≤v∧v≤1000)
 {f:Int×List Int→Option ((Int×List Int)⊕((List Int×Int×ByteArray×Int)⊕List Int))}
 (hf:∀a,f a=if decide (a.1<(L.length:Int))=true then(at? L a.1).bind fun x=>if 0≤x∧x<(32:Nat)then(a.2[0+x.toNat*1]?).bind fun v=>if 0≤x∧x<(32:Nat)then if 0+x.toNat*1<a.2.length then if 0≤x∧x<(32:Nat)then((a.2.set (0+x.toNat*1) (IntKind.wrap .i64 (v+1)))[0+x.toNat*1]?).bind fun w=>
  if decide (32<w)=true then some (.inr (.inl (a.2.set (0+x.toNat*1) (IntKind.wrap .i64 (v+1)),7,sSegments,i)))else some (.inl (IntKind.wrap .i64 (a.1+1),a.2.set (0+x.toNat*1) (IntKind.wrap .i64 (v+1))))else none else none else none else none
  else some (.inr (.inr a.2))):
 ∃p,iterO f n (0,ports)=some (if(L.any fun x=>decide (32<ports[x.toNat]?.getD 0+1))=true then .inl (p,7,sSegments,i)else .inr (bumpL ports L)):=by
 have main:=seg_inner L ports i hn hp h0 hd hs hv (k:=fun t=>some (match t with | .inl q=>(Sum.inl q.2:(Int×ByteArray×Int)⊕List Int) | .inr q=>.inr q)) (bad:=some (.inl (7,sSegments,i))) (fin:=some (.inr (bumpL ports L))) (fun p=>rfl) rfl hf
 cases hany:(L.any fun x=>decide (32<ports[x.toNat]?.getD 0+1))with
 |true=>
  rw[hany]at main;cases hit:iterO f n (0,ports)with
  |none=>rw[hit]at main;simp at main
  |some t=>
   grind
 |false=>
  rw[hany]at main;cases hit:iterO f n (0,ports)with
  |none=>rw[hit]at main;simp at main
  |some t=>
   rw[hit]at main;cases t with
   |inl q=>simp at main
   |inr q=>
    simp_all
theorem seg_inner_or{n:Nat}{γ ST τ:Type}(L ports:List Int)(i:Int)(hn:L.length<n)(hp:ports.length=32)(h0:∀x∈L,0≤x∧x<32)(hd:L.Nodup)(hs:L.length≤4000)(hv:∀v∈ports,0≤v∧v≤1000)
 {f:Int×List Int→Option ((Int×List Int)⊕((List Int×Int×ByteArray×Int)⊕List Int))}
 (hf:∀a,f a=if decide (a.1<(L.length:Int))=true then(at? L a.1).bind fun x=>if 0≤x∧x<(32:Nat)then(a.2[0+x.toNat*1]?).bind fun v=>if 0≤x∧x<(32:Nat)then if 0+x.toNat*1<a.2.length then if 0≤x∧x<(32:Nat)then((a.2.set (0+x.toNat*1) (IntKind.wrap .i64 (v+1)))[0+x.toNat*1]?).bind fun w=>
  if decide (32<w)=true then some (.inr (.inl (a.2.set (0+x.toNat*1) (IntKind.wrap .i64 (v+1)),7,sSegments,i)))else some (.inl (IntKind.wrap .i64 (a.1+1),a.2.set (0+x.toNat*1) (IntKind.wrap .i64 (v+1))))else none else none else none else none
  else some (.inr (.inr a.2))) {k:(List Int×Int×ByteArray×Int)⊕List Int→Option (ST⊕τ)} {A:ST} {kk:τ→Option γ} {B:Option γ} {Ev:Int}
 (hEv:Ev=if(L.any fun x=>decide (32<ports[x.toNat]?.getD 0+1))=true then 7 else 0) (hk1:Ev=7→∀p,∃t,k (.inl (p,7,sSegments,i))=some (.inr t)∧kk t=B) (hk2:k (.inr (bumpL ports L))=some (.inl A)):
 (Ev=0∧(iterO f n (0,ports)).bind k=some (.inl A))∨(Ev≠0∧∃t,(iterO f n (0,ports)).bind k=some (.inr t)∧kk t=B):=by
 obtain⟨p,hit⟩:=seg_inner_ex L ports i hn hp h0 hd hs hv hf;rw[hit];cases hany:(L.any fun x=>decide (32<ports[x.toNat]?.getD 0+1))with
 |true=>
  simp_all
 |false=>
  grind
theorem bind_firstR{α τ γ ST:Type}{f:ST→Option (ST⊕τ)}{s0:ST}(mk:Nat→ST)(l:List α)(E:Nat→α→Int){k:τ→Option γ}(bad:Nat→Int→Option γ)(fin:Option γ){n:Nat}(h0:s0=mk 0)(hn:l.length<n)
 (hr:∀(i:Nat) x,l[i]? =some x→(∀(j:Nat) y,j<i→l[j]? =some y→E j y=0)→(E i x=0∧f (mk i)=some (.inl (mk (i+1))))∨(E i x≠0∧∃t,f (mk i)=some (.inr t)∧k t=bad i (E i x)))
 (he:(∀(j:Nat) y,l[j]? =some y→E j y=0)→∃t,f (mk l.length)=some (.inr t)∧k t=fin):
 (iterO f n s0).bind k=(match firstErr E 0 l with |none=>fin |some (e,i)=>bad i e):=by
 refine bind_firstS' mk l E bad fin h0 hn (fun i x hx hp hE=>?_) (fun i x hx hp hE=>?_) he
 ·grind
 grind
theorem ck_segments(n:Nat)(f:Fabric)(hn:f.Segments.length<n)(hL:f.Leaves≤32)(hB:f.BDs.length≤4000)(hsn:∀s∈f.Segments,(s.BDs.length<n∧s.BDs.length≤4000)∧s.Leaves.length<n∧s.Leaves.length≤4000):
 c_tenant_checker_segments.S n ⟨f⟩=some (outcome sSegments 64 (decide (64<(f.Segments.length:Int))) (firstErr (segE f) 0 f.Segments)):=by
 show(g_tenant_checker_segments ⟨f⟩).run n=_;simp only[g_tenant_checker_segments,G.run,tsOk,lenO_bind,tenant_fail,Sum.elim,gt_iff_lt,decide_eq_true_eq];by_cases hfull:(64:Int)<f.Segments.length
 ·simp[hfull,outcome];rfl
 ·simp only[hfull,if_false,decide_false];simp only[G.run,tsOk,lenO_bind,if_true,idxO_bind,tenant_within,tenant_outside,tenant_fail,Sum.elim,idxA_bind,ldA_bind,stA_bind];refine Eq.trans (bind_firstR (fun i=>((i:Int),portsOf (f.Segments.take i))) f.Segments (segE f) (fun i e=>some (.inr (e,sSegments,(i:Int)))) (some (.inl ())) (by simp[portsOf_nil]) hn (fun i x hx hp=>?_) (fun hp=>?_)) ?_
  ·have hi:=(List.getElem?_eq_some_iff.1 hx).1;have hxm:=List.mem_of_getElem? hx;have hlt:(i:Int)<f.Segments.length:=by omega
   simp only[hlt,if_true,at?_nat,hx,Option.bind_some];rw[contains_leafIn n x.Leaves f (hsn x hxm).2.1 (hsn x hxm).2.2];rw[contains_bdIn n x.BDs f (hsn x hxm).1.1 (hsn x hxm).1.2];simp only[G.run,tsOk,lenO_bind,if_true,tenant_fail,Sum.elim];rw[tenant_ascending n x.Leaves (hsn x hxm).2.1 (hsn x hxm).2.2,tenant_ascending n x.BDs (hsn x hxm).1.1 (hsn x hxm).1.2];simp only[G.run,tsOk,lenO_bind,if_true,tenant_fail,Sum.elim,idxO_bind,idxA_bind,ldA_bind,stA_bind,gt_iff_lt];unfold segE;cases hc1:((x.Leaves.length:Int)==0)
   case true=>exact .inr ⟨by simp,_,rfl,rfl⟩
   cases hc2:((x.BDs.length:Int)==0)
   case true=>exact .inr ⟨by simp,_,rfl,rfl⟩
   cases hc3:(x.Leaves.any fun n=> !(decide (0≤n)&&decide (n<f.Leaves)))
   case true=>exact .inr ⟨by simp,_,rfl,rfl⟩
   cases hc4:(x.BDs.any fun n=> !(decide (0≤n)&&decide (n<(f.BDs.length:Int))))
   case true=>exact .inr ⟨by simp,_,rfl,rfl⟩
   cases hc5:ascB x.Leaves
   case false=>exact .inr ⟨by simp,_,rfl,rfl⟩
   cases hc6:ascB x.BDs
   case false=>exact .inr ⟨by simp,_,rfl,rfl⟩
   simp only[Bool.not_true,Bool.false_eq_true,if_false];have hrange:∀y∈x.Leaves,0≤y∧y<32:=by
    intro y hy;rw[List.any_eq_false]at hc3;have:=hc3 y hy;simp at this;omega
   obtain⟨hnd,_⟩:=ascB_nodup x.Leaves hc5;have hcnt:∀v∈portsOf (f.Segments.take i),0≤v∧v≤1000:=by
    intro v hv;simp only[portsOf,List.mem_map,List.mem_range]at hv;obtain⟨m,_,rfl⟩:=hv;have:=List.countP_le_length (p:=fun s:Segment=>s.Leaves.contains (m:Int)) (l:=f.Segments.take i)
    simp only[List.length_take]at this;omega
   refine seg_inner_or x.Leaves (portsOf (f.Segments.take i)) (i:Int) (hsn x hxm).2.1 (portsOf_len _) hrange hnd (hsn x hxm).2.2 hcnt (fun a=>rfl) ?_ (fun h7 p=>⟨_,rfl,by rw[h7];rfl⟩) ?_
   ·have:(x.Leaves.any fun n=>decide (32<(((f.Segments.take i).countP fun s=>s.Leaves.contains n:Nat):Int)+1))=x.Leaves.any fun y=>decide (32<(portsOf (f.Segments.take i))[y.toNat]?.getD 0+1):=by
     apply Bool.eq_iff_iff.2;simp only[List.any_eq_true];constructor
     ·rintro⟨y,hy,h⟩;have hr:=hrange y hy;refine⟨y,hy,?_⟩;rw[portsOf_get _ (by omega),show((y.toNat:Nat):Int)=y by omega]
      exact h
     ·rintro⟨y,hy,h⟩;have hr:=hrange y hy;refine⟨y,hy,?_⟩;rw[portsOf_get _ (by omega),show((y.toNat:Nat):Int)=y by omega]at h
      exact h
    rw[this]
   ·have htake:f.Segments.take (i+1)=f.Segments.take i++[x]:=by rw[List.take_add_one,hx];rfl
    have e:bumpL (portsOf (f.Segments.take i)) x.Leaves=portsOf (f.Segments.take (i+1)):=by rw[htake];exact portsOf_snoc _ _ (fun y hy=>(hrange y hy).1) hnd
    rw[e];have hw:=wrap_nat (show i<9223372036854775807 by omega)
    show some (Sum.inl (IntKind.wrap .i64 ((i:Int)+1),portsOf (f.Segments.take (i+1))))=_;rw[hw]
  ·refine⟨.inr (portsOf f.Segments),?_,rfl⟩;simp
  ·cases firstErr (segE f) 0 f.Segments<;>rfl
end Go.L
namespace Go.L
open Go.AM
structure Small(f:Fabric):Prop where
 links:f.Links.length≤4000
 tenants:f.Tenants.length≤4000
 bds:f.BDs.length≤4000
 segments:f.Segments.length≤4000
 hosts:f.Hosts.length≤4000
 leaks:f.Leaks.length≤4000
 seg:∀s∈f.Segments,s.Leaves.length≤4000∧s.BDs.length≤4000
abbrev Res:=Unit⊕(Int×ByteArray×Int)
def oFabric(f:Fabric):Res:=if badFabric f=true then .inr (2,sFabric,0)else .inl ()
def oTimers(f:Fabric):Res:=if badTimers f.Timers=true then .inr (2,sTimers,0)else .inl ()
def oLinks(f:Fabric):Res:=outcome sLinks 128 (decide (128<(f.Links.length:Int))) (firstErr (linkE f (flagsF (fun x:Link=>(⟨x.A,x.B⟩:V2 Int)) [] f.Links)) 0 f.Links)
def oTenants(f:Fabric):Res:=outcome sTenants 16 (decide (16<(f.Tenants.length:Int))) (firstErr (tenantE (flagsF (fun x:Tenant=>x.VNI) [] f.Tenants) (flagsF (fun x:Tenant=>x.Target) [] f.Tenants)) 0 f.Tenants)
def oDomains(f:Fabric):Res:=outcome sDomains 32 (decide (32<(f.BDs.length:Int))) (firstErr (domE f (flagsF (fun x:BD=>x.VNI) [] f.BDs) (flagsF (fun x:BD=>x.Target) [] f.BDs)) 0 f.BDs)
def oSegments(f:Fabric):Res:=outcome sSegments 64 (decide (64<(f.Segments.length:Int))) (firstErr (segE f) 0 f.Segments)
def oHosts(f:Fabric):Res:=outcome sHosts 128 (decide (128<(f.Hosts.length:Int))) (firstErr (hostE f (flagsF (fun x:Host=>(⟨x.BD,x.MAC⟩:tenant_place)) [] f.Hosts) (flagsF (fun x:Host=>(⟨x.BD,IntKind.wrap .u64 x.IP⟩:tenant_place)) [] f.Hosts)) 0 f.Hosts)
def oLeaks(f:Fabric):Res:=outcome sLeaks 256 (decide (256<(f.Leaks.length:Int))) (firstErr (leakE f (flagsF (fun x:Leak=>x) [] f.Leaks)) 0 f.Leaks)
def thenR(a:Res)(b:Int×ByteArray×Int):Int×ByteArray×Int:=match a with
 | .inl _=>b
 | .inr t=>t
def checkS(f:Fabric):Int×ByteArray×Int:=
 thenR (oFabric f)<|thenR (oTimers f)<|thenR (oLinks f)<|thenR (oTenants f)<|thenR (oDomains f)<|thenR (oSegments f)<|thenR (oHosts f)<|thenR (oLeaks f) (0,⟨⟨[]⟩⟩,0)
theorem outcome_ok{p:ByteArray}{m:Int}{b:Bool}{r:Option (Int×Nat)}{u:Unit}(h:outcome p m b r=.inl u):b=false∧r=none:=by
 unfold outcome at h;grind
theorem sub_ok{f:Fabric}{u:Unit}(h:oDomains f=.inl u):∀b∈f.BDs,b.Gateway≠0→okPre b.Subnet=true:=by
 intro b hb hg;have:=(outcome_ok h).2;rw[firstErr_none]at this;obtain⟨i,hi⟩:=List.getElem?_of_mem hb;have:=this i b hi;have hg':(b.Gateway==0)=false:=by simpa using hg
 have hcl:cleanS b.Subnet=true:=by
  cases hc:cleanS b.Subnet with
  |true=>rfl
  |false=>
   unfold domE at this;simp only[hg',hc,Bool.not_false,if_true,Bool.false_eq_true,if_false]at this
   repeat' split at this
   all_goals cases this
 simp only[cleanS,Bool.and_eq_true]at hcl;exact hcl.1
theorem leaves_ok{f:Fabric}{u:Unit}(h:oFabric f=.inl u):1≤f.Leaves∧f.Leaves≤32∧0≤f.Spines∧f.Spines≤32:=by
 unfold oFabric at h;split at h
 ·cases h
 ·rename_i hb;simp only[badFabric,out,Bool.not_eq_true,Bool.or_eq_false_iff,decide_eq_false_iff_not]at hb;omega
theorem tenant_Check{β:Type}(n:Nat)(hn:5000≤n)(f:Fabric)(hs:Small f)(k:c_tenant_Check.sh.El→Option β):(c_tenant_Check.S n f).bind k=k (checkS f):=by
 have b1:∀{γ:Type} (k:c_tenant_checker_fabric.sh.El→Option γ),(c_tenant_checker_fabric.S n ⟨f⟩).bind k=k (oFabric f):=fun k=>by rw[ck_fabric];rfl
 have b2:∀{γ:Type} (k:c_tenant_checker_timers.sh.El→Option γ),(c_tenant_checker_timers.S n ⟨f⟩).bind k=k (oTimers f):=fun k=>by rw[ck_timers];rfl
 have b3:∀{γ:Type} (k:c_tenant_checker_links.sh.El→Option γ),(c_tenant_checker_links.S n ⟨f⟩).bind k=k (oLinks f):=fun k=>by rw[ck_links n f (by have:=hs.links;omega) (by omega)];rfl
 have b4:∀{γ:Type} (k:c_tenant_checker_tenants.sh.El→Option γ),(c_tenant_checker_tenants.S n ⟨f⟩).bind k=k (oTenants f):=fun k=>by rw[ck_tenants n f (by have:=hs.tenants;omega)];rfl
 have b5:∀{γ:Type} (k:c_tenant_checker_domains.sh.El→Option γ),(c_tenant_checker_domains.S n ⟨f⟩).bind k=k (oDomains f):=fun k=>by rw[ck_domains n f (by have:=hs.bds;omega) (by have:=hs.tenants;omega) hs.tenants];rfl
 have b8:∀{γ:Type} (k:c_tenant_checker_leaks.sh.El→Option γ),(c_tenant_checker_leaks.S n ⟨f⟩).bind k=k (oLeaks f):=fun k=>by rw[ck_leaks n f (by have:=hs.leaks;omega)];rfl
 have hseg:∀s∈f.Segments,(s.BDs.length<n∧s.BDs.length≤4000)∧s.Leaves.length<n∧s.Leaves.length≤4000:=fun s h=>by
  have:=hs.seg s h;omega
 have:c_tenant_Check.S n f=some (checkS f):=by
  show(g_tenant_Check f).run n=_;have b0:∀{γ:Type} (k:c_tenant_checks.sh.El→Option γ),(c_tenant_checks.S n ()).bind k=k ():=fun k=>rfl
  simp only[g_tenant_Check,G.run,tsOk,b0,b1];unfold checkS;cases h1:oFabric f with
  |inr t=>rfl
  |inl u=>
   simp only[Sum.elim,G.run,b2];cases h2:oTimers f with
   |inr t=>rfl
   |inl u=>
    simp only[Sum.elim,G.run,b3];cases h3:oLinks f with
    |inr t=>rfl
    |inl u=>
     simp only[Sum.elim,G.run,b4];cases h4:oTenants f with
     |inr t=>rfl
     |inl u=>
      simp only[Sum.elim,G.run,b5];cases h5:oDomains f with
      |inr t=>rfl
      |inl u=>
       have b6:∀{γ:Type} (k:c_tenant_checker_segments.sh.El→Option γ),(c_tenant_checker_segments.S n ⟨f⟩).bind k=k (oSegments f):=fun k=>by rw[ck_segments n f (by have:=hs.segments;omega) (leaves_ok h1).2.1 hs.bds hseg];rfl
       simp only[Sum.elim,G.run,b6];cases h6:oSegments f with
       |inr t=>rfl
       |inl u=>
        have hle:f.Segments.length≤64:=by
         have:=(outcome_ok h6).1;simp only[decide_eq_false_iff_not]at this;omega
        have b7:∀{γ:Type} (k:c_tenant_checker_hosts.sh.El→Option γ),(c_tenant_checker_hosts.S n ⟨f⟩).bind k=k (oHosts f):=fun k=>by rw[ck_hosts n f (by have:=hs.hosts;omega) hle (fun s h=>(hseg s h).1) (sub_ok h5)];rfl
        simp only[Sum.elim,G.run,b7];cases h7:oHosts f with
        |inr t=>rfl
        |inl u=>
         simp only[Sum.elim,G.run,b8];cases h8:oLeaks f with
         |inr t=>rfl
         |inl u=>rfl
 rw[this];rfl
end Go.L
end
section
namespace Go.L
open Go.AM
def Good{γ:Type}(o:Option γ)(Q:γ→Prop):Prop:=∃v,o=some v∧Q v
theorem Good.bind{γ δ:Type}{o:Option γ}{Q:γ→Prop}{k:γ→Option δ}{R:δ→Prop}(h:Good o Q)(hk:∀v,Q v→Good (k v) R):Good (o.bind k) R:=by
 obtain⟨v,rfl,hv⟩:=h;exact hk v hv
theorem Good.mono{γ:Type}{o:Option γ}{Q R:γ→Prop}(h:Good o Q)(hk:∀v,Q v→R v):Good o R:=by
 obtain⟨v,e,hv⟩:=h;exact⟨v,e,hk v hv⟩
theorem Good.some{γ:Type}{v:γ}{Q:γ→Prop}(h:Q v):Good (some v) Q:=⟨v,rfl,h⟩
theorem good_iter{ST τ:Type}{f:ST→Option (ST⊕τ)}{Q:τ→Prop}(I:Nat→ST→Prop)(N:Nat)
 (hf:∀j s,j<N→I j s→Good (f s) fun r=>match r with | .inl s'=>I (j+1) s' | .inr t=>Q t)
 (he:∀s,I N s→Good (f s) fun r=>match r with | .inl _=>False | .inr t=>Q t) {n:Nat} (hn:N<n) {s0:ST} (h0:I 0 s0):Good (iterO f n s0) Q:=by
 have key:∀(k j n:Nat) (s:ST),j+k=N→k<n→I j s→Good (iterO f n s) Q:=by
  intro k;induction k with
  |zero=>
   intro j n s hj hn hs;obtain⟨n,rfl⟩:∃m,n=m+1:=⟨n - 1,by omega⟩
   have:j=N:=by omega
   subst this;obtain⟨r,hr,h⟩:=he s hs;cases r with
   |inl s'=>exact h.elim
   |inr t=>exact⟨t,by simp only[iterO,hr],h⟩
  |succ k ih=>
   intro j n s hj hn hs;obtain⟨n,rfl⟩:∃m,n=m+1:=⟨n - 1,by omega⟩
   obtain⟨r,hr,h⟩:=hf j s (by omega) hs
   cases r with
   |inl s'=>
    grind [iterO]
   |inr t=>exact⟨t,by simp only[iterO,hr],h⟩
 exact key N 0 n s0 (by omega) hn h0
def TkV(c:Int)(x:kit_taker):Prop:=0≤x.at_∧x.at_≤c
end Go.L
namespace Go.L
open Go.AM
theorem kit_Mod(n:Nat)(x k:Int)(hk:0<k)(hk2:k≤4000000000000000000):c_kit_Mod.S n (x,k)=some (x % k):=by
 show(g_kit_Mod x k).run n=_;have h1:¬k≤0:=by omega
 have h2:k≠0:=by omega
 simp only[g_kit_Mod,G.run,tsOk,remO,binO,decide_eq_true_eq,h1,if_false,h2,ne_eq,not_false_eq_true,decide_true,if_true,Option.bind_some,wrap_tmod hk hk2,emod_tmod hk]<;>rfl
section
variable {n:Nat}
theorem take_good(x:kit_taker)(m c:Int)(hx:TkV c x)(hc:c≤1000000)(h1:1≤m)(h2:m≤1000000):
 Good (γ:=Int×kit_taker) (c_kit_taker_take.S n (x,m)) fun r=>0≤r.1∧r.1<m∧TkV (c+1) r.2:=by
 obtain⟨ha,hb⟩:=hx;show Good (γ:=Int×kit_taker) ((g_kit_taker_take x m).run n) _;have w1:IntKind.wrap .i64 (x.at_+1)=x.at_+1:=wrap_i64 (by omega) (by omega)
 have w2:IntKind.wrap .i64 (x.at_+1 - 1)=x.at_:=by rw[wrap_i64 (by omega) (by omega)];omega
 have eM:∀{γ:Type} (a:Int) (k:c_kit_Mod.sh.El→Option γ),(c_kit_Mod.S n (a,m)).bind k=k (a % m):=fun a k=>by rw[kit_Mod n a m (by omega) (by omega)];rfl
 simp only[g_kit_taker_take,G.run,tsOk,lenO_bind,idxO_bind,w1,w2,eM,if_true,decide_eq_true_eq];by_cases h:x.at_≥(x.l.length:Int)
 ·rw[if_pos h];exact .some ⟨by show(0:Int)≤0;omega,by show(0:Int)<m;omega,ha,by show x.at_≤c+1;omega⟩
 ·rw[if_neg h];obtain⟨i,hi⟩:∃i:Nat,x.at_=(i:Int):=⟨x.at_.toNat,by omega⟩
  have hlt:i<x.l.length:=by omega
  rw[hi,at?_nat,List.getElem?_eq_getElem hlt,Option.bind_some];exact .some ⟨Int.emod_nonneg _ (by omega),Int.emod_lt_of_pos _ (by omega),by show(0:Int)≤(i:Int)+1;omega,by show(i:Int)+1≤c+1;omega⟩
end
end Go.L
namespace Go.L
open Go.AM
def LinkV(L S:Int)(x:Link):Prop:=0≤x.A∧x.A<L∧L≤x.B∧x.B<L+S∧1≤x.Cost∧x.Cost≤2
def linkK(x:Link):V2 Int:=⟨x.A,x.B⟩
def LinksV(L S:Int)(l:List Link):Prop:=l.length≤32∧(∀x∈l,LinkV L S x)∧(l.map linkK).Nodup
def LinksI(L S j i:Int)(l:List Link):Prop:=(∀x∈l,LinkV L S x∧(x.A<j∨x.A=j∧x.B<L+i))∧(l.map linkK).Nodup
theorem linksI_snoc{L S j i c:Int}{l:List Link}(h:LinksI L S j i l)(hj:0≤j∧j<L)(hi:0≤i∧i<S)(hc:1≤c∧c≤2):LinksI L S j (i+1) (l++[⟨j,L+i,c⟩]):=by
 refine⟨fun x hx=>?_,?_⟩
 ·rcases List.mem_append.1 hx with hx |hx
  ·obtain⟨h1,h2⟩:=h.1 x hx;exact⟨h1,by omega⟩
  ·simp only[List.mem_singleton]at hx;subst hx;refine⟨⟨?_,?_,?_,?_,?_,?_⟩,.inr ⟨rfl,?_⟩⟩<;>simp only<;>omega
 ·rw[List.map_append,List.nodup_append];refine⟨h.2,by simp,?_⟩
  intro a ha b hb;simp only[List.map_cons,List.map_nil,List.mem_singleton]at hb;subst hb;obtain⟨x,hx,rfl⟩:=List.mem_map.1 ha;obtain⟨h1,h2⟩:=h.1 x hx;intro e;simp only[linkK,V2.mk.injEq]at e;omega
theorem linksI_next{L S j i:Int}{l:List Link}(h:LinksI L S j i l):LinksI L S j (i+1) l:=
 ⟨fun x hx=>⟨(h.1 x hx).1,by have:=(h.1 x hx).2;omega⟩,h.2⟩
theorem linksI_row{L S j:Int}{i:Int}{l:List Link}(h:LinksI L S j i l)(hi:S≤i):LinksI L S (j+1) 0 l:=
 ⟨fun x hx=>⟨(h.1 x hx).1,by have:=(h.1 x hx).2;grind⟩,h.2⟩
section
variable {n:Nat}
theorem links_valid(x:kit_taker)(L S c:Int)(hx:TkV c x)(hc:c≤100000)(hL:0≤L∧L≤8)(hS:0≤S∧S≤4)(hn:5000≤n):
 Good (γ:=List Link×kit_taker) (c_kit_links.S n (x,L,S)) fun r=>LinksV L S r.1∧TkV (c+64) r.2:=by
 show Good (γ:=List Link×kit_taker) ((g_kit_links x L S).run n) _;simp only[g_kit_links,G.run,tsOk,appO_bind,if_true,decide_eq_true_eq];refine Good.bind (γ:=List Int×Int×List Link) (Q:=fun t=>LinksV L S t.2.2∧0≤t.2.1∧t.2.1≤c+64) ?_ (fun t ht=>?_)
 ·refine good_iter (fun j (s:Int×List Int×Int×List Link)=>s.1=(j:Int)∧0≤s.2.2.1∧s.2.2.1≤c+8*(j:Int)∧(s.2.2.2.length:Int)≤4*(j:Int)∧LinksI L S (j:Int) 0 s.2.2.2) L.toNat (fun j s hj hs=>?_) (fun s hs=>?_) (by omega) ⟨rfl,hx.1,by have:=hx.2;simp;omega,by simp,by simp[LinksI]⟩
  ·obtain⟨h1,h2,h3,h4,h5⟩:=hs;have hlt:s.1<L:=by omega
   simp only[hlt,if_true];refine Good.bind (γ:=List Int×Int×List Link) (Q:=fun t=>0≤t.2.1∧t.2.1≤c+8*((j:Int)+1)∧(t.2.2.length:Int)≤4*((j:Int)+1)∧LinksI L S ((j:Int)+1) 0 t.2.2) ?_ (fun t ht=>?_)
   ·refine good_iter (fun i (q:Int×List Int×Int×List Link)=>q.1=(i:Int)∧0≤q.2.2.1∧q.2.2.1≤c+8*(j:Int)+2*(i:Int)∧(q.2.2.2.length:Int)≤4*(j:Int)+(i:Int)∧LinksI L S (j:Int) (i:Int) q.2.2.2) S.toNat (fun i q hi hq=>?_) (fun q hq=>?_) (by omega) ⟨rfl,h2,by simp;omega,by simp;omega,h5⟩
    ·obtain⟨g1,g2,g3,g4,g5⟩:=hq;have hlt:q.1<S:=by omega
     simp only[hlt,if_true];refine Good.bind (take_good _ 8 (c+8*(j:Int)+2*(i:Int)) ⟨g2,g3⟩ (by omega) (by decide) (by decide)) (fun r hr=>?_)
     obtain⟨r1,r2,r3⟩:=hr;by_cases h7:(r.1 != 7)=true
     ·simp only[h7,if_true];refine Good.bind (take_good r.2 2 (c+8*(j:Int)+2*(i:Int)+1) r3 (by omega) (by decide) (by decide)) (fun r' hr'=>?_)
      obtain⟨s1,s2,s3⟩:=hr';obtain⟨s3,s4⟩:=s3;have w:IntKind.wrap .i64 (q.1+1)=q.1+1:=wrap_i64 (by omega) (by omega)
      have w2:IntKind.wrap .i64 (L+q.1)=L+q.1:=wrap_i64 (by omega) (by omega)
      have w3:IntKind.wrap .i64 (1+r'.1)=1+r'.1:=wrap_i64 (by omega) (by omega)
      have hroom:roomy (q.2.2.2.length+1) 24=true:=by simp[roomy];omega
      rw[if_pos ⟨trivial,hroom⟩,w,w2,w3];have hsn:LinksI L S (j:Int) ((i:Int)+1) (q.2.2.2++[⟨(j:Int),L+(i:Int),1+r'.1⟩]):=linksI_snoc g5 ⟨by omega,by omega⟩ ⟨by omega,by omega⟩ ⟨by omega,by omega⟩
      refine .some ⟨?_,?_,?_,?_,?_⟩
      ·grind
      ·omega
      ·grind
      ·grind
      grind
     ·simp only[h7,Bool.false_eq_true,if_false];obtain⟨s3,s4⟩:=r3;have w:IntKind.wrap .i64 (q.1+1)=q.1+1:=wrap_i64 (by omega) (by omega)
      rw[w];exact .some ⟨by grind,s3,by grind,by grind,linksI_next g5⟩
    ·obtain⟨g1,g2,g3,g4,g5⟩:=hq;have hlt:¬q.1<S:=by omega
     simp only[hlt,if_false];exact .some ⟨g2,by grind,by grind,linksI_row g5 (by omega)⟩
   ·obtain⟨t1,t2,t3,t4⟩:=ht;have w:IntKind.wrap .i64 (s.1+1)=s.1+1:=wrap_i64 (by omega) (by omega)
    rw[w];exact .some ⟨by grind,t1,by grind,by grind,t4⟩
  ·obtain⟨h1,h2,h3,h4,h5⟩:=hs;have hlt:¬s.1<L:=by omega
   simp only[hlt,if_false];exact .some ⟨⟨by show s.2.2.2.length≤32;omega,fun x hx=>(h5.1 x hx).1,h5.2⟩,h2,by show s.2.2.1≤c+64;omega⟩
 ·obtain⟨h1,h2,h3⟩:=ht;simp[fzRow];refine .some ⟨h1,h2,h3⟩
def Asc(l:List Int):Prop:=l.Pairwise (· < ·)
theorem asc_snoc{l:List Int}{y:Int}(h:Asc l)(hy:∀x∈l,x<y):Asc (l++[y]):=by
 unfold Asc at*;grind
def SomeV(m q:Int)(l:List Int):Prop:=1≤l.length∧(l.length:Int)≤q∧(∀y∈l,0≤y∧y<m)∧Asc l
theorem some_valid(x:kit_taker)(m q c:Int)(hx:TkV c x)(hc:c≤100000)(hm:1≤m∧m≤8)(hq:1≤q)(hn:5000≤n):
 Good (γ:=List Int×kit_taker) (c_kit_some.S n (x,m,q)) fun r=>SomeV m q r.1∧TkV (c+9) r.2:=by
 show Good (γ:=List Int×kit_taker) ((g_kit_some x m q).run n) _;simp only[g_kit_some,G.run,tsOk,appO_bind,if_true,decide_eq_true_eq];refine Good.bind (take_good x m c hx (by omega) (by omega) (by omega)) (fun r hr=>?_)
 obtain⟨r1,r2,r3,r4⟩:=hr;refine Good.bind (γ:=List Int×Int×List Int) (Q:=fun t=>(t.2.2.length:Int)≤q∧(∀y∈t.2.2,0≤y∧y<m)∧Asc t.2.2∧0≤t.2.1∧t.2.1≤c+9) ?_ (fun t ht=>?_)
 ·refine good_iter (fun j (s:Int×List Int×Int×List Int)=>s.1=(j:Int)∧0≤s.2.2.1∧s.2.2.1≤c+1+(j:Int)∧(s.2.2.2.length:Int)≤(j:Int)∧(s.2.2.2.length:Int)≤q∧(∀y∈s.2.2.2,0≤y∧y<(j:Int))∧Asc s.2.2.2) m.toNat (fun j s hj hs=>?_) (fun s hs=>?_) (by omega) ⟨rfl,r3,by simp;omega,by simp,by simp;omega,by simp,by simp[Asc]⟩
  ·obtain⟨h1,h2,h3,h4,h4',h5,h5'⟩:=hs;have hlt:s.1<m:=by omega
   have w:IntKind.wrap .i64 (s.1+1)=s.1+1:=wrap_i64 (by omega) (by omega)
   have hroom:roomy (s.2.2.2.length+1) 8=true:=by simp[roomy];omega
   have h6:∀y∈s.2.2.2++[s.1],0≤y∧y<((j+1:Nat):Int):=by
    intro y hy;rcases List.mem_append.1 hy with hy |hy
    ·have:=h5 y hy;omega
    ·grind
   have h7:∀y∈s.2.2.2,0≤y∧y<((j+1:Nat):Int):=fun y hy=>by have:=h5 y hy;omega
   have h8:Asc (s.2.2.2++[s.1]):=asc_snoc h5' fun y hy=>by have:=h5 y hy;omega
   simp only[hlt,if_true,w];by_cases hq:(s.2.2.2.length:Int)<q
   ·simp only[hq,if_true];by_cases he:(s.1==r.1)=true
    ·simp only[he,if_true];rw[if_pos ⟨trivial,hroom⟩];refine .some ⟨?_,?_,?_,?_,?_,h6,h8⟩<;>(try simp only[List.length_append,List.length_cons,List.length_nil])<;>omega
    ·simp only[he,Bool.false_eq_true,if_false];refine Good.bind (take_good _ 3 (c+1+(j:Int)) ⟨h2,h3⟩ (by omega) (by decide) (by decide)) (fun r' hr'=>?_)
     obtain⟨s1,s2,s3,s4⟩:=hr';by_cases hz:(r'.1==1)=true
     ·simp only[hz,if_true];rw[if_pos ⟨trivial,hroom⟩];refine .some ⟨?_,?_,?_,?_,?_,h6,h8⟩<;>(try simp only[List.length_append,List.length_cons,List.length_nil])<;>omega
     ·simp only[hz,Bool.false_eq_true,if_false];refine .some ⟨?_,?_,?_,?_,?_,h7,h5'⟩<;>(try simp only[List.length_append,List.length_cons,List.length_nil])<;>omega
   ·simp only[hq,if_false];refine .some ⟨?_,fun y hy=>?_,h5',?_,?_⟩
    ·exact h4'
    ·have:=h5 y hy;omega
    ·exact h2
    ·show s.2.2.1≤c+9;omega
  ·obtain⟨h1,h2,h3,h4,h4',h5,h5'⟩:=hs;have hlt:¬s.1<m:=by omega
   simp only[hlt,if_false];refine .some ⟨?_,fun y hy=>?_,h5',?_,?_⟩
   ·exact h4'
   ·have:=h5 y hy;omega
   ·exact h2
   ·show s.2.2.1≤c+9;omega
 ·obtain⟨t1,t2,t2',t3,t4⟩:=ht;by_cases hz:((t.2.2.length:Int)==0)=true
  ·simp only[hz,if_true];simp[fzRow];refine .some ⟨⟨?_,?_,?_,?_⟩,t3,t4⟩
   ·simp
   ·simp;omega
   ·simp;omega
   ·simp[Asc]
  ·simp only[hz,Bool.false_eq_true,if_false];simp[fzRow];refine .some ⟨⟨?_,t1,t2,t2'⟩,t3,t4⟩;grind
end
end Go.L
namespace Go.L
open Go.AM
theorem remO_bind{β:Type}(a b:Int)(hb:b≠0)(k:Unit→Option β):(remO .i64 a b).run.bind k=k ():=by
 grind [remO,binO]
theorem pw16:((2:Int) ^ (@Min.min Nat instMinNat (Int.toNat (16:Int)) (IntKind.bits .i64)))=65536:=by decide
theorem wrap_u32'{a:Int}(h0:0≤a)(h1:a<4294967296):IntKind.wrap .u32 a=a:=by
 simp only[IntKind.wrap,IntKind.bits,IntKind.signed];simp
 omega
def BdV(nt:Int)(i:Int)(b:BD):Prop:=0≤b.Tenant∧b.Tenant<nt∧b.VNI=10+i∧b.Target=500+i∧(b.Subnet=⟨0,0⟩∧b.Gateway=0∨b.Subnet=⟨167772160+i*65536,24⟩∧b.Gateway=167772161+i*65536)
def LeakV(nt:Int)(x:Leak):Prop:=0≤x.From∧x.From<nt∧0≤x.To∧x.To<nt∧x.From≠x.To∧(x.Prefix=⟨0,0⟩∨∃t,0≤t∧t<4∧x.Prefix=⟨167772160+t*65536,16⟩)
def SegV(L nb:Int)(s:Segment):Prop:=SomeV L 3 s.Leaves∧SomeV nb 4 s.BDs
def HostV(bds:List BD)(segs:List Segment)(i:Int)(h:Host):Prop:=
 h.MAC=2199023951872+i∧0≤h.BD∧h.BD<(bds.length:Int)∧(h.Segment= -1∨∃s,at? segs h.Segment=some s∧h.BD∈s.BDs)∧
 (h.IP=0∨∃b,at? bds h.BD=some b∧b.Gateway≠0∧h.IP=b.Subnet.IP+(10+i))
section
variable {n:Nat}
theorem domain_valid(x:kit_taker)(i m c:Int)(hx:TkV c x)(hc:c≤100000)(hm:1≤m∧m≤8)(hi:0≤i∧i≤8):
 Good (γ:=BD×kit_taker) (c_kit_domain.S n (x,i,m)) fun r=>BdV m i r.1∧TkV (c+2) r.2:=by
 show Good (γ:=BD×kit_taker) ((g_kit_domain x i m).run n) _;have w1:IntKind.wrap .i64 (10+i)=10+i:=wrap_i64 (by omega) (by omega)
 have w2:IntKind.wrap .u32 (10+i)=10+i:=wrap_u32' (by omega) (by omega)
 have w3:IntKind.wrap .i64 (500+i)=500+i:=wrap_i64 (by omega) (by omega)
 have w4:IntKind.wrap .u32 (500+i)=500+i:=wrap_u32' (by omega) (by omega)
 have w5:IntKind.wrap .i64 (i*65536)=i*65536:=wrap_i64 (by omega) (by omega)
 have w6:IntKind.wrap .i64 (167772160+i*65536)=167772160+i*65536:=wrap_i64 (by omega) (by omega)
 have w7:IntKind.wrap .u32 (167772160+i*65536)=167772160+i*65536:=wrap_u32' (by omega) (by omega)
 have w8:IntKind.wrap .u32 (167772160+i*65536+1)=167772161+i*65536:=by rw[wrap_u32' (by omega) (by omega)];omega
 simp only[g_kit_domain,G.run,tsOk,if_true,decide_eq_true_eq,pw16,w1,w2,w3,w4,w5,w6,w7,w8];refine Good.bind (take_good x m c hx (by omega) (by omega) (by omega)) (fun r hr=>?_)
 refine Good.bind (take_good r.2 4 (c+1) hr.2.2 (by omega) (by decide) (by decide)) (fun r' hr'=>?_)
 have h:TkV (c+2) r'.2:=by have:=hr'.2.2;unfold TkV at*;omega
 split
 ·exact .some ⟨⟨hr.1,hr.2.1,rfl,rfl,.inr ⟨rfl,rfl⟩⟩,h⟩
 ·exact .some ⟨⟨hr.1,hr.2.1,rfl,rfl,.inl ⟨rfl,rfl⟩⟩,h⟩
theorem leak_valid(x:kit_taker)(m c:Int)(hx:TkV c x)(hc:c≤100000)(hm:2≤m∧m≤8):
 Good (γ:=Leak×kit_taker) (c_kit_leak.S n (x,m)) fun r=>LeakV m r.1∧TkV (c+4) r.2:=by
 show Good (γ:=Leak×kit_taker) ((g_kit_leak x m).run n) _;have w:IntKind.wrap .i64 (m - 1)=m - 1:=wrap_i64 (by omega) (by omega)
 have e:=fun {γ:Type} (a:Int) (k:Unit→Option γ)=>remO_bind a m (by omega) k
 simp only[g_kit_leak,G.run,tsOk,if_true,decide_eq_true_eq,w,e,pw16];refine Good.bind (take_good x m c hx (by omega) (by omega) (by omega)) (fun r hr=>?_)
 refine Good.bind (take_good r.2 (m - 1) (c+1) hr.2.2 (by omega) (by omega) (by omega)) (fun r' hr'=>?_)
 refine Good.bind (take_good r'.2 2 (c+1+1) hr'.2.2 (by omega) (by decide) (by decide)) (fun q hq=>?_)
 obtain⟨a1,a2,a3⟩:=hr;obtain⟨b1,b2,b3⟩:=hr';have v1:IntKind.wrap .i64 (r.1+1)=r.1+1:=wrap_i64 (by omega) (by omega)
 have v2:IntKind.wrap .i64 (r.1+1+r'.1)=r.1+1+r'.1:=wrap_i64 (by omega) (by omega)
 have v3:Int.tmod (r.1+1+r'.1) m=(r.1+1+r'.1) % m:=Int.tmod_eq_emod_of_nonneg (by omega)
 have v4:0≤(r.1+1+r'.1) % m:=Int.emod_nonneg _ (by omega)
 have v5:(r.1+1+r'.1) % m<m:=Int.emod_lt_of_pos _ (by omega)
 have v6:r.1≠(r.1+1+r'.1) % m:=by
  by_cases hlt:r.1+1+r'.1<m
  ·rw[Int.emod_eq_of_lt (by omega) hlt];omega
  ·have e1:(r.1+1+r'.1) % m=(r.1+1+r'.1 - m) % m:=by rw[Int.sub_emod_right]
   rw[e1,Int.emod_eq_of_lt (by omega) (by omega)];omega
 rw[v1,v2,v3];split
 ·refine Good.bind (take_good q.2 4 (c+1+1+1) hq.2.2 (by omega) (by decide) (by decide)) (fun p hp=>?_)
  have w5:IntKind.wrap .i64 (p.1*65536)=p.1*65536:=wrap_i64 (by omega) (by omega)
  have w6:IntKind.wrap .i64 (167772160+p.1*65536)=167772160+p.1*65536:=wrap_i64 (by omega) (by omega)
  have w7:IntKind.wrap .u32 (167772160+p.1*65536)=167772160+p.1*65536:=wrap_u32' (by omega) (by omega)
  rw[w5,w6,w7];exact .some ⟨⟨a1,a2,v4,v5,v6,.inr ⟨p.1,hp.1,hp.2.1,rfl⟩⟩,by grind⟩
 ·exact .some ⟨⟨a1,a2,v4,v5,v6,.inl rfl⟩,by have:=hq.2.2;unfold TkV at*;grind⟩
theorem at_in{α:Type}(l:List α)(i:Int)(h0:0≤i)(h1:i<(l.length:Int)):∃x,at? l i=some x∧x∈l:=by
 obtain⟨j,rfl⟩:∃j:Nat,i=(j:Int):=⟨i.toNat,by omega⟩
 have hj:j<l.length:=by omega
 exact⟨l[j],by grind [at?_nat],List.getElem_mem hj⟩
theorem idxS_bind{β:Type}(len m b ver:Nat)(i:Int)(k:Unit→Option β)(h0:0≤i)(h1:i<(len:Int)):(idxS len m b ver i).run.bind k=k ():=by
 simp[idxS,h0,h1]
theorem tk_le{c d:Int}{x:kit_taker}(h:TkV c x)(hd:c≤d):TkV d x:=⟨h.1,Int.le_trans h.2 hd⟩
def BdsV(nt:Int)(l:List BD):Prop:=∀(i:Nat) b,l[i]? =some b→BdV nt (i:Int) b
theorem bdV_ip{nt i:Int}{b:BD}(h:BdV nt i b)(hi:0≤i∧i≤8)(hg:b.Gateway≠0):b.Subnet.IP=167772160+i*65536:=by
 obtain⟨-,-,-,-,h |h⟩:=h
 ·exact absurd h.2 hg
 ·rw[h.1]
theorem host_valid(x:kit_taker)(L S:Int)(links:List Link)(ten:List Tenant)(bds:List BD)(segs:List Segment)(a8 a9 a10:Int)(b11 b12:Bool)(a13 a14 a15 a16 a17 a18 i c nt:Int)(hx:TkV c x)(hc:c≤100000)
 (h1:1≤segs.length∧segs.length≤8) (h2:∀s∈segs,SegV L (bds.length:Int) s) (h3:BdsV nt bds) (h4:bds.length≤8) (hi:0≤i∧i≤8):
 Good (γ:=Host×kit_taker) (c_kit_host_2.S n (x,L,S,links,ten,bds,segs,a8,a9,a10,b11,b12,a13,a14,a15,a16,a17,a18,i)) fun r=>HostV bds segs i r.1∧TkV (c+4) r.2:=by
 show Good (γ:=Host×kit_taker) ((g_kit_host_2 x L S links ten bds segs a8 a9 a10 b11 b12 a13 a14 a15 a16 a17 a18 i).run n) _;have w1:IntKind.wrap .i64 (2199023951872+i)=2199023951872+i:=wrap_i64 (by omega) (by omega)
 have w2:IntKind.wrap .u64 (2199023951872+i)=2199023951872+i:=by
  simp only[IntKind.wrap,IntKind.bits,IntKind.signed];simp
  omega
 have w3:IntKind.wrap .i64 (10+i)=10+i:=wrap_i64 (by omega) (by omega)
 have w4:IntKind.wrap .u32 (10+i)=10+i:=wrap_u32' (by omega) (by omega)
 simp only[g_kit_host_2,G.run,tsOk,lenO_bind,idxO_bind,if_true,decide_eq_true_eq,w1,w2,w3,w4];refine Good.bind (take_good x (segs.length:Int) c hx (by omega) (by omega) (by omega)) (fun r hr=>?_)
 obtain⟨s,hs,hm⟩:=at_in segs r.1 hr.1 hr.2.1;have hso:=(h2 s hm).2;obtain⟨so1,so2,so3,-⟩:=hso;rw[hs,Option.bind_some];refine Good.bind (take_good r.2 (s.BDs.length:Int) (c+1) hr.2.2 (by omega) (by omega) (by omega)) (fun r' hr'=>?_)
 obtain⟨d,hd,hdm⟩:=at_in s.BDs r'.1 hr'.1 hr'.2.1;rw[hd,Option.bind_some];obtain⟨b,hb,_⟩:=at_in bds d (so3 d hdm).1 (so3 d hdm).2;rw[hb,Option.bind_some];have h3':TkV (c+1+1) r'.2:=hr'.2.2;have hbd:=so3 d hdm;have hbv:BdV nt d b:=by
  obtain⟨j,rfl⟩:∃j:Nat,d=(j:Int):=⟨d.toNat,by omega⟩
  rw[at?_nat]at hb;exact h3 j b hb
 have hseg:∀{v:Int},(v= -1∨v=r.1)→(v= -1∨∃s,at? segs v=some s∧d∈s.BDs):=by
  rintro v (rfl |rfl)
  ·exact .inl rfl
  ·exact .inr ⟨s,hs,hdm⟩
 by_cases hg:(b.Gateway != 0)=true
 ·have hg':b.Gateway≠0:=by simpa using hg
  have hip:=bdV_ip hbv ⟨hbd.1,by omega⟩ hg'
  have w5:IntKind.wrap .u32 (b.Subnet.IP+(10+i))=b.Subnet.IP+(10+i):=wrap_u32' (by omega) (by omega)
  rw[if_pos hg];refine Good.bind (take_good r'.2 6 (c+1+1) h3' (by omega) (by decide) (by decide)) (fun q hq=>?_)
  split
  ·rw[Option.bind_some,w5];refine Good.bind (take_good q.2 10 (c+1+1+1) hq.2.2 (by omega) (by decide) (by decide)) (fun p hp=>?_)
   split
   ·exact .some ⟨⟨rfl,hbd.1,hbd.2,hseg (.inl rfl),.inr ⟨b,hb,hg',rfl⟩⟩,tk_le hp.2.2 (by omega)⟩
   ·exact .some ⟨⟨rfl,hbd.1,hbd.2,hseg (.inr rfl),.inr ⟨b,hb,hg',rfl⟩⟩,tk_le hp.2.2 (by omega)⟩
  ·refine Good.bind (take_good q.2 10 (c+1+1+1) hq.2.2 (by omega) (by decide) (by decide)) (fun p hp=>?_)
   split
   ·exact .some ⟨⟨rfl,hbd.1,hbd.2,hseg (.inl rfl),.inl rfl⟩,tk_le hp.2.2 (by omega)⟩
   ·exact .some ⟨⟨rfl,hbd.1,hbd.2,hseg (.inr rfl),.inl rfl⟩,tk_le hp.2.2 (by omega)⟩
 ·rw[if_neg hg];refine Good.bind (take_good r'.2 10 (c+1+1) h3' (by omega) (by decide) (by decide)) (fun p hp=>?_)
  split
  ·exact .some ⟨⟨rfl,hbd.1,hbd.2,hseg (.inl rfl),.inl rfl⟩,tk_le hp.2.2 (by omega)⟩
  ·exact .some ⟨⟨rfl,hbd.1,hbd.2,hseg (.inr rfl),.inl rfl⟩,tk_le hp.2.2 (by omega)⟩
def TensV(l:List Tenant):Prop:=∀(i:Nat) t,l[i]? =some t→t=⟨100+(i:Int),900+(i:Int)⟩
def HostsV(bds:List BD)(segs:List Segment)(l:List Host):Prop:=∀(i:Nat) h,l[i]? =some h→HostV bds segs (i:Int) h
structure Vf(f:Fabric):Prop where
 leaves:2≤f.Leaves∧f.Leaves≤4
 spines:1≤f.Spines∧f.Spines≤3
 links:LinksV f.Leaves f.Spines f.Links
 tenants:1≤f.Tenants.length∧f.Tenants.length≤3
 ten:TensV f.Tenants
 bds:1≤f.BDs.length∧f.BDs.length≤4
 bd:BdsV (f.Tenants.length:Int) f.BDs
 segments:2≤f.Segments.length∧f.Segments.length≤6
 seg:∀s∈f.Segments,SegV f.Leaves (f.BDs.length:Int) s
 hosts:f.Hosts.length≤8
 host:HostsV f.BDs f.Segments f.Hosts
 leaks:f.Leaks.length≤2
 leak:∀x∈f.Leaks,LeakV (f.Tenants.length:Int) x
 leakD:f.Leaks.Nodup
 elect:0≤f.Elect∧f.Elect≤2
 horizon:0≤f.Horizon∧f.Horizon≤1
 router:0≤f.Router∧f.Router≤1
 timers:1≤f.Timers.Detect∧f.Timers.Detect≤3∧f.Timers.Hold=9∧40≤f.Timers.Age∧f.Timers.Age≤69∧f.Timers.Restart=20∧f.Timers.Moves=5∧f.Timers.Window=30
theorem get_snoc{α:Type}{P:Nat→α→Prop}{l:List α}{y:α}(h:∀(i:Nat) x,l[i]? =some x→P i x)(hy:P l.length y):∀(i:Nat) x,(l++[y])[i]? =some x→P i x:=by
 grind
theorem fabric_valid(l:List Int)(hn:5000≤n):Good (γ:=Fabric) (c_kit_Fabric.S n l) Vf:=by
 show Good (γ:=Fabric) ((g_kit_Fabric l).run n) _;simp only[g_kit_Fabric,G.run,tsOk,lenO_bind,idxO_bind,appO_bind,if_true,decide_eq_true_eq];refine Good.bind (take_good (n:=n) (Go.L.kit_taker.mk l 0) 3 0 ⟨Int.le_refl _,Int.le_refl _⟩ (by decide) (by decide) (by decide)) (fun r2 h2=>?_)
 refine Good.bind (take_good r2.2 3 1 h2.2.2 (by decide) (by decide) (by decide)) (fun r3 h3=>?_)
 refine Good.bind (take_good r3.2 3 2 h3.2.2 (by decide) (by decide) (by decide)) (fun r4 h4=>?_)
 refine Good.bind (take_good r4.2 2 3 h4.2.2 (by decide) (by decide) (by decide)) (fun r5 h5=>?_)
 refine Good.bind (take_good r5.2 2 4 h5.2.2 (by decide) (by decide) (by decide)) (fun r6 h6=>?_)
 refine Good.bind (take_good r6.2 2 5 h6.2.2 (by decide) (by decide) (by decide)) (fun r7 h7=>?_)
 refine Good.bind (take_good r7.2 3 6 h7.2.2 (by decide) (by decide) (by decide)) (fun r8 h8=>?_)
 refine Good.bind (take_good r8.2 3 7 h8.2.2 (by decide) (by decide) (by decide)) (fun r9 h9=>?_)
 refine Good.bind (take_good r9.2 30 8 h9.2.2 (by decide) (by decide) (by decide)) (fun r10 h10=>?_)
 obtain⟨l1,l2,-⟩:=h2;obtain⟨p1,p2,-⟩:=h3;obtain⟨e1,e2,-⟩:=h4;obtain⟨e3,e4,-⟩:=h5;obtain⟨e5,e6,-⟩:=h6;obtain⟨e7,e8,-⟩:=h9;obtain⟨e9,e10,h10'⟩:=h10;have wl:IntKind.wrap .i64 (2+r2.1)=2+r2.1:=wrap_i64 (by omega) (by omega)
 have wp:IntKind.wrap .i64 (1+r3.1)=1+r3.1:=wrap_i64 (by omega) (by omega)
 have wd:IntKind.wrap .i64 (1+r9.1)=1+r9.1:=wrap_i64 (by omega) (by omega)
 have wa:IntKind.wrap .i64 (40+r10.1)=40+r10.1:=wrap_i64 (by omega) (by omega)
 rw[wl,wp,wd,wa];refine Good.bind (links_valid r10.2 (2+r2.1) (1+r3.1) 9 h10' (by decide) (by omega) (by omega) hn) (fun r11 h11=>?_)
 refine Good.bind (γ:=List Int×Int×List Tenant) (Q:=fun t=>1≤t.2.2.length∧t.2.2.length≤3∧0≤t.2.1∧t.2.1≤77∧TensV t.2.2) ?_ (fun t1 ht1=>?_)
 ·obtain⟨k1,k2⟩:=h11.2;refine good_iter (fun j (s:Int×List Int×Int×List Tenant)=>s.1=(j:Int)∧0≤s.2.2.1∧s.2.2.1≤73+(j:Int)∧(s.2.2.2.length:Int)=(j:Int)∧TensV s.2.2.2) 3 (fun j s hj hs=>?_) (fun s hs=>?_) (by omega) ⟨rfl,k1,by simp;omega,by simp,by simp[TensV]⟩
  ·obtain⟨g1,g2,g3,g4,g5⟩:=hs;refine Good.bind (take_good (n:=n) (Go.L.kit_taker.mk s.2.1 s.2.2.1) 3 (73+(j:Int)) ⟨g2,g3⟩ (by omega) (by decide) (by decide)) (fun r hr=>?_)
   obtain⟨s1,s2,s3,s4⟩:=hr;have w:IntKind.wrap .i64 (s.1+1)=s.1+1:=wrap_i64 (by omega) (by omega)
   have w1:IntKind.wrap .i64 (100+s.1)=100+s.1:=wrap_i64 (by omega) (by omega)
   have w2:IntKind.wrap .u32 (100+s.1)=100+s.1:=wrap_u32' (by omega) (by omega)
   have w3:IntKind.wrap .i64 (900+s.1)=900+s.1:=wrap_i64 (by omega) (by omega)
   have w4:IntKind.wrap .u32 (900+s.1)=900+s.1:=wrap_u32' (by omega) (by omega)
   have hroom:roomy (s.2.2.2.length+1) 8=true:=by simp[roomy];omega
   by_cases hle:s.1≤r.1
   ·rw[if_pos hle,if_pos ⟨trivial,hroom⟩,w,w1,w2,w3,w4];refine .some ⟨?_,?_,?_,?_,?_⟩
    ·grind
    ·exact s3
    ·grind
    ·grind
    ·refine get_snoc (P:=fun i t=>t=(⟨100+(i:Int),900+(i:Int)⟩:Tenant)) g5 ?_
     rw[g4,g1]
   ·rw[if_neg hle];refine .some ⟨?_,?_,?_,?_,g5⟩
    ·show 1≤s.2.2.2.length;omega
    ·show s.2.2.2.length≤3;omega
    ·exact s3
    ·show r.2.at_≤77;omega
  ·obtain⟨g1,g2,g3,g4,g5⟩:=hs;refine Good.bind (take_good (n:=n) (Go.L.kit_taker.mk s.2.1 s.2.2.1) 3 76 ⟨g2,by simpa using g3⟩ (by omega) (by decide) (by decide)) (fun r hr=>?_)
   obtain⟨s1,s2,s3,s4⟩:=hr;have hle:¬s.1≤r.1:=by omega
   rw[if_neg hle];refine .some ⟨?_,?_,?_,?_,g5⟩
   ·show 1≤s.2.2.2.length;omega
   ·show s.2.2.2.length≤3;omega
   ·exact s3
   ·show r.2.at_≤77;omega
 obtain⟨u1,u2,u3,u4,u5⟩:=ht1;refine Good.bind (take_good (n:=n) (Go.L.kit_taker.mk t1.1 t1.2.1) 4 77 ⟨u3,u4⟩ (by decide) (by decide) (by decide)) (fun r25 h25=>?_)
 obtain⟨q1,q2,q3⟩:=h25;have w25:IntKind.wrap .i64 (1+r25.1)=1+r25.1:=wrap_i64 (by omega) (by omega)
 rw[w25];simp[fzRow];refine Good.bind (γ:=List Int×Int×List BD) (Q:=fun t=>1≤t.2.2.length∧t.2.2.length≤4∧0≤t.2.1∧t.2.1≤86∧BdsV (t1.2.2.length:Int) t.2.2) ?_ (fun t2 ht2=>?_)
 ·refine good_iter (fun j (s:Int×List Int×Int×List BD)=>s.1=(j:Int)∧0≤s.2.2.1∧s.2.2.1≤78+2*(j:Int)∧(s.2.2.2.length:Int)=(j:Int)∧BdsV (t1.2.2.length:Int) s.2.2.2) (1+r25.1).toNat (fun j s hj hs=>?_) (fun s hs=>?_) (by omega) ⟨rfl,q3.1,by have:=q3.2;simp;omega,by simp,by simp[BdsV]⟩
  ·obtain⟨g1,g2,g3,g4,g5⟩:=hs;have hlt:s.1<1+r25.1:=by omega
   rw[if_pos hlt];refine Good.bind (domain_valid (n:=n) (Go.L.kit_taker.mk s.2.1 s.2.2.1) s.1 (t1.2.2.length:Int) (78+2*(j:Int)) ⟨g2,g3⟩ (by omega) (by omega) (by omega)) (fun r hr=>?_)
   obtain⟨hb,s3,s4⟩:=hr;have w:IntKind.wrap .i64 (s.1+1)=s.1+1:=wrap_i64 (by omega) (by omega)
   have hroom:roomy (s.2.2.2.length+1) 40=true:=by simp[roomy];omega
   rw[if_pos hroom,w];refine .some ⟨?_,?_,?_,?_,?_⟩
   ·grind
   ·exact s3
   ·grind
   ·grind
   ·refine get_snoc (P:=fun i b=>BdV (t1.2.2.length:Int) (i:Int) b) g5 ?_
    rw[g4,← g1];exact hb
  ·obtain⟨g1,g2,g3,g4,g5⟩:=hs;have hlt:¬s.1<1+r25.1:=by omega
   rw[if_neg hlt];refine .some ⟨?_,?_,?_,?_,g5⟩
   ·show 1≤s.2.2.2.length;omega
   ·show s.2.2.2.length≤4;omega
   ·exact g2
   ·show s.2.2.1≤86;omega
 obtain⟨b1,b2,b3,b4,b5⟩:=ht2;refine Good.bind (take_good (n:=n) (Go.L.kit_taker.mk t2.1 t2.2.1) 5 86 ⟨b3,b4⟩ (by decide) (by decide) (by decide)) (fun r39 h39=>?_)
 obtain⟨q1',q2',q3'⟩:=h39;have w39:IntKind.wrap .i64 (2+r39.1)=2+r39.1:=wrap_i64 (by omega) (by omega)
 rw[w39];refine Good.bind (γ:=List Int×Int×List Segment) (Q:=fun t=>2≤t.2.2.length∧t.2.2.length≤6∧(∀y∈t.2.2,SegV (2+r2.1) (t2.2.2.length:Int) y)∧0≤t.2.1∧t.2.1≤195) ?_ (fun t3 ht3=>?_)
 ·refine good_iter (fun j (s:Int×List Int×Int×List Segment)=>s.1=(j:Int)∧0≤s.2.2.1∧s.2.2.1≤87+18*(j:Int)∧(s.2.2.2.length:Int)=(j:Int)∧∀y∈s.2.2.2,SegV (2+r2.1) (t2.2.2.length:Int) y) (2+r39.1).toNat (fun j s hj hs=>?_) (fun s hs=>?_) (by omega) ⟨rfl,q3'.1,by have:=q3'.2;simp;omega,by simp,by simp⟩
  ·obtain⟨g1,g2,g3,g4,g5⟩:=hs;have hlt:s.1<2+r39.1:=by omega
   rw[if_pos hlt];refine Good.bind (some_valid (n:=n) (Go.L.kit_taker.mk s.2.1 s.2.2.1) (2+r2.1) 3 (87+18*(j:Int)) ⟨g2,g3⟩ (by omega) (by omega) (by omega) hn) (fun r hr=>?_)
   obtain⟨m1,m4⟩:=hr;refine Good.bind (some_valid (n:=n) r.2 (t2.2.2.length:Int) 4 (87+18*(j:Int)+9) m4 (by omega) (by omega) (by omega) hn) (fun r' hr'=>?_)
   obtain⟨m5,m8,m9⟩:=hr';have w:IntKind.wrap .i64 (s.1+1)=s.1+1:=wrap_i64 (by omega) (by omega)
   have hroom:roomy (s.2.2.2.length+1) 48=true:=by simp[roomy];omega
   rw[if_pos hroom,w];refine .some ⟨?_,?_,?_,?_,fun y hy=>?_⟩
   ·grind
   ·exact m8
   ·grind
   ·grind
   ·rcases List.mem_append.1 hy with hy |hy
    ·exact g5 y hy
    ·simp only[List.mem_singleton]at hy;subst hy;exact⟨m1,m5⟩
  ·obtain⟨g1,g2,g3,g4,g5⟩:=hs;have hlt:¬s.1<2+r39.1:=by omega
   rw[if_neg hlt];refine .some ⟨?_,?_,g5,g2,?_⟩
   ·show 2≤s.2.2.2.length;omega
   ·show s.2.2.2.length≤6;omega
   ·show s.2.2.1≤195;omega
 obtain⟨c1,c2,c3,c4,c5⟩:=ht3;refine Good.bind (take_good (n:=n) (Go.L.kit_taker.mk t3.1 t3.2.1) 9 195 ⟨c4,c5⟩ (by decide) (by decide) (by decide)) (fun r56 h56=>?_)
 obtain⟨v1,v2,v3⟩:=h56;refine Good.bind (γ:=List Int×Int×List Host) (Q:=fun t=>t.2.2.length≤8∧0≤t.2.1∧t.2.1≤228∧HostsV t2.2.2 t3.2.2 t.2.2) ?_ (fun t4 ht4=>?_)
 ·refine good_iter (fun j (s:Int×List Int×Int×List Host)=>s.1=(j:Int)∧0≤s.2.2.1∧s.2.2.1≤196+4*(j:Int)∧(s.2.2.2.length:Int)=(j:Int)∧HostsV t2.2.2 t3.2.2 s.2.2.2) r56.1.toNat (fun j s hj hs=>?_) (fun s hs=>?_) (by omega) ⟨rfl,v3.1,by have:=v3.2;simp;omega,by simp,by simp[HostsV]⟩
  ·obtain⟨g1,g2,g3,g4,g5⟩:=hs;have hlt:s.1<r56.1:=by omega
   rw[if_pos hlt];refine Good.bind (host_valid (n:=n) (Go.L.kit_taker.mk s.2.1 s.2.2.1) _ _ _ _ t2.2.2 t3.2.2 _ _ _ _ _ _ _ _ _ _ _ s.1 (196+4*(j:Int)) (t1.2.2.length:Int) ⟨g2,g3⟩ (by omega) (by omega) c3 b5 (by omega) (by omega)) (fun r hr=>?_)
   obtain⟨hh,s3,s4⟩:=hr;have w:IntKind.wrap .i64 (s.1+1)=s.1+1:=wrap_i64 (by omega) (by omega)
   have hroom:roomy (s.2.2.2.length+1) 32=true:=by simp[roomy];omega
   rw[if_pos hroom,w];refine .some ⟨?_,?_,?_,?_,?_⟩
   ·grind
   ·exact s3
   ·grind
   ·grind
   ·refine get_snoc (P:=fun i b=>HostV t2.2.2 t3.2.2 (i:Int) b) g5 ?_
    rw[g4,← g1];exact hh
  ·obtain⟨g1,g2,g3,g4,g5⟩:=hs;have hlt:¬s.1<r56.1:=by omega
   rw[if_neg hlt];refine .some ⟨?_,?_,?_,g5⟩
   ·show s.2.2.2.length≤8;omega
   ·exact g2
   ·show s.2.2.1≤228;omega
 obtain⟨d1,d2,d3,d4⟩:=ht4;have hsz:∀lk:List Leak,lk.length≤2→(∀x∈lk,LeakV (t1.2.2.length:Int) x)→lk.Nodup→Vf {Leaves:=2+r2.1,Spines:=1+r3.1,Links:=r11.1,Tenants:=t1.2.2,BDs:=t2.2.2,Segments:=t3.2.2,Hosts:=t4.2.2,Leaks:=lk,Elect:=r4.1,Horizon:=r5.1,Router:=r6.1,Suppress:=r7.1==0,Trees:=r8.1==1,Timers:={Detect:=1+r9.1,Hold:=9,Age:=40+r10.1,Restart:=20,Moves:=5,Window:=30}}:=fun lk hlk hlv hld=>
  ⟨⟨by show 2≤2+r2.1;omega,by show 2+r2.1≤4;omega⟩,⟨by show 1≤1+r3.1;omega,by show 1+r3.1≤3;omega⟩,h11.1,⟨u1,u2⟩,u5,⟨b1,b2⟩,b5,⟨c1,c2⟩,c3,d1,d4,hlk,hlv,hld,
   ⟨e1,by show r4.1≤2;omega⟩,⟨e3,by show r5.1≤1;omega⟩,⟨e5,by show r6.1≤1;omega⟩,by show 1≤1+r9.1;omega,by show 1+r9.1≤3;omega,rfl,by show 40≤40+r10.1;omega,by show 40+r10.1≤69;omega,rfl,rfl,rfl⟩
 by_cases hm:(1:Int)<(t1.2.2.length:Int)
 ·rw[if_pos (by simpa using hm)]
  refine Good.bind (take_good (n:=n) (Go.L.kit_taker.mk t4.1 t4.2.1) 3 228 ⟨d2,d3⟩ (by decide) (by decide) (by decide)) (fun r70 h70=>?_)
  obtain⟨v1',v2',v3'⟩:=h70;refine Good.bind (γ:=List Int×Int×List Leak) (Q:=fun t=>t.2.2.length≤2∧(∀x∈t.2.2,LeakV (t1.2.2.length:Int) x)∧t.2.2.Nodup) ?_ (fun t5 ht5=>?_)
  ·refine good_iter (fun j (s:Int×List Int×Int×List Leak)=>s.1=(j:Int)∧0≤s.2.2.1∧s.2.2.1≤229+4*(j:Int)∧(s.2.2.2.length:Int)≤(j:Int)∧(∀x∈s.2.2.2,LeakV (t1.2.2.length:Int) x)∧s.2.2.2.Nodup) r70.1.toNat (fun j s hj hs=>?_) (fun s hs=>?_) (by omega) ⟨rfl,v3'.1,by have:=v3'.2;simp;omega,by simp,by simp,by simp⟩
   ·obtain⟨g1,g2,g3,g4,g5,g6⟩:=hs;have hlt:s.1<r70.1:=by omega
    rw[if_pos hlt];refine Good.bind (leak_valid (n:=n) (Go.L.kit_taker.mk s.2.1 s.2.2.1) (t1.2.2.length:Int) (229+4*(j:Int)) ⟨g2,g3⟩ (by omega) (by omega)) (fun r hr=>?_)
    obtain⟨hk,s3,s4⟩:=hr;have w:IntKind.wrap .i64 (s.1+1)=s.1+1:=wrap_i64 (by omega) (by omega)
    have hroom:roomy (s.2.2.2.length+1) 32=true:=by simp[roomy];omega
    refine Good.bind (γ:=Unit⊕Unit) (Q:=fun t=>match t with | .inl _=>True | .inr _=>r.1∉s.2.2.2) ?_ (fun t ht=>?_)
    ·refine good_iter (fun i (q:Int)=>q=(i:Int)∧∀j<i,∀y,s.2.2.2[j]? =some y→y≠r.1) s.2.2.2.length (fun i q hi hq=>?_) (fun q hq=>?_) (by omega) ⟨rfl,by simp⟩
     ·obtain⟨rfl,hq⟩:=hq;have hlt:(i:Int)<(s.2.2.2.length:Int):=by omega
      rw[if_pos hlt,idxS_bind _ _ _ _ _ _ (by omega) hlt]
      simp only[ldO_bind,Int.toNat_natCast,List.getElem?_eq_getElem hi,Option.bind_some];split
      ·exact .some trivial
      ·rename_i hne;refine .some ⟨wrap_nat (by omega),fun k hk y hy=>?_⟩
       grind
     ·obtain⟨rfl,hq⟩:=hq;simp only[Int.lt_irrefl,if_false];refine .some fun hmem=>?_
      obtain⟨k,hk⟩:=List.getElem?_of_mem hmem;grind
    ·cases t with
     |inl _=>
      simp only[Sum.elim,G.run,tsOk,if_true];rw[w];refine .some ⟨?_,s3,?_,?_,g5,g6⟩
      ·grind
      ·grind
      grind
     |inr _=>
      simp only[Sum.elim,G.run,tsOk,appO_bind,if_true];rw[if_pos ⟨trivial,hroom⟩,w];refine .some ⟨?_,s3,?_,?_,fun x hx=>?_,?_⟩
      ·grind
      ·grind
      ·grind
      ·grind
      grind
   ·obtain⟨g1,g2,g3,g4,g5,g6⟩:=hs;have hlt:¬s.1<r70.1:=by omega
    rw[if_neg hlt];exact .some ⟨by show s.2.2.2.length≤2;omega,g5,g6⟩
  ·exact .some (hsz _ ht5.1 ht5.2.1 ht5.2.2)
 ·rw[if_neg (by simpa using hm)]
  exact .some (hsz [] (by simp) (by simp) (by simp))
end
end Go.L
namespace Go.L
open Go.AM
theorem flag_false{α K:Type}[DecidableEq K](key:α→K)(l:List α)(i:Nat)(x:α)(hx:l[i]? =some x)(h:∀(j:Nat) y,j<i→l[j]? =some y→key y≠key x):(flagsF key [] l).getD i false=false:=by
 rw[List.getD_eq_getElem?_getD,flagsF_get,hx];simp only[Option.map_some,Option.getD_some,List.nil_append,decide_eq_false_iff_not,List.mem_map,not_exists,not_and];intro y hy e;obtain⟨j,hj⟩:=List.getElem?_of_mem hy;grind
theorem outcome_inl{p:ByteArray}{m:Int}{b:Bool}{r:Option (Int×Nat)}(hb:b=false)(hr:r=none):outcome p m b r=.inl ():=by
 subst hb;subst hr;rfl
theorem firstErr_all{α:Type}{E:Nat→α→Int}{l:List α}(h:∀(j:Nat) x,l[j]? =some x→E j x=0):firstErr E 0 l=none:=
 (firstErr_none l 0).2 fun j x hx=>by rw[Nat.zero_add];exact h j x hx
theorem asc_b:∀{l:List Int},Asc l→ascB l=true
 | [],_=>rfl
 | [_],_=>rfl
 |x::y::l,h=>by
  have h':Asc (y::l):=(List.pairwise_cons.1 h).2;have hxy:x<y:=(List.pairwise_cons.1 h).1 y (by simp)
  have ih:=asc_b h';simp only[ascB,List.tail_cons,List.zip_cons_cons,List.all_cons,Bool.and_eq_true,decide_eq_true_eq]at ih ⊢;exact⟨hxy,ih⟩
theorem nd_get{α:Type}{l:List α}(h:l.Nodup){i j:Nat}{x y:α}(hx:l[i]? =some x)(hy:l[j]? =some y)(hij:j<i):y≠x:=by
 obtain⟨h1,rfl⟩:=List.getElem?_eq_some_iff.1 hx;obtain⟨h2,rfl⟩:=List.getElem?_eq_some_iff.1 hy;exact(List.pairwise_iff_getElem.1 h) j i h2 h1 hij
section
variable {f:Fabric} (hv:Vf f)
include hv
theorem vf_links:oLinks f=.inl ():=by
 obtain⟨h1,h2,h3⟩:=hv.links;refine outcome_inl (by simp;omega) (firstErr_all fun i x hx=>?_)
 obtain⟨a1,a2,a3,a4,a5,a6⟩:=h2 x (List.mem_of_getElem? hx);have hf:=flag_false (fun x:Link=>(⟨x.A,x.B⟩:V2 Int)) f.Links i x hx fun j y hj hy e=>by
  have e1:(f.Links.map linkK)[i]? =some (linkK x):=by rw[List.getElem?_map,hx];rfl
  have e2:(f.Links.map linkK)[j]? =some (linkK y):=by rw[List.getElem?_map,hy];rfl
  exact nd_get h3 e1 e2 hj e
 have hw:IntKind.wrap .i64 (f.Leaves+f.Spines)=f.Leaves+f.Spines:=wrap_i64 (by grind) (by have:=hv.leaves;have:=hv.spines;omega)
 have c1:(decide (0≤x.A)&&decide (x.A<f.Leaves))=true:=by simp[a1,a2]
 have c2:decide (x.B≥f.Leaves)=true:=by simp;omega
 have c3:¬(!decide (x.B<IntKind.wrap .i64 (f.Leaves+f.Spines)))=true:=by rw[hw];simp;omega
 have c4:¬(decide (x.Cost<1)||decide (1000<x.Cost))=true:=by simp;omega
 rw[linkE,if_pos c1,if_pos c2,if_neg c3,if_neg c4,hf,if_neg (by decide)]
theorem vf_tenants:oTenants f=.inl ():=by
 obtain⟨h1,h2⟩:=hv.tenants;have ht:=hv.ten;refine outcome_inl (by simp;omega) (firstErr_all fun i x hx=>?_)
 have hi:=(List.getElem?_eq_some_iff.1 hx).1;have e:=ht i x hx;have hf1:=flag_false (fun x:Tenant=>x.VNI) f.Tenants i x hx fun j y hj hy e'=>by
  have e2:=ht j y hy;subst e2;subst e;simp at e';omega
 have hf2:=flag_false (fun x:Tenant=>x.Target) f.Tenants i x hx fun j y hj hy e'=>by
  have e2:=ht j y hy;subst e2;subst e;simp at e';omega
 subst e;have c1:¬decide ((100+(i:Int))<1)=true:=by simp;omega
 have c2:¬decide (16777215<(100+(i:Int)))=true:=by simp;omega
 have c3:¬(((900+(i:Int))==0)=true):=by simp;omega
 rw[tenantE,if_neg c1,if_neg c2,if_neg c3,hf1,if_neg (by decide),hf2,if_neg (by decide)]
theorem vf_leaks:oLeaks f=.inl ():=by
 refine outcome_inl (by have:=hv.leaks;simp;omega) (firstErr_all fun i x hx=>?_)
 obtain⟨a1,a2,a3,a4,a5,a6⟩:=hv.leak x (List.mem_of_getElem? hx);have hf:=flag_false (fun x:Leak=>x) f.Leaks i x hx fun j y hj hy e=>nd_get hv.leakD hx hy hj e
 have c1:¬(!(decide (0≤x.From)&&decide (x.From<(f.Tenants.length:Int))))=true:=by simp[a1,a2]
 have c2:¬(!(decide (0≤x.To)&&decide (x.To<(f.Tenants.length:Int))))=true:=by simp[a3,a4]
 have c3:¬(x.From==x.To)=true:=by simp[a5]
 have c4:¬(!cleanS x.Prefix)=true:=by
  rcases a6 with e |⟨t,t0,t4,e⟩
  ·rw[e];decide
  ·rw[e];rcases(by omega:t=0∨t=1∨t=2∨t=3)with rfl |rfl |rfl |rfl<;>decide
 rw[leakE,if_neg c1,if_neg c2,if_neg c3,if_neg c4,hf,if_neg (by decide)]
theorem vf_domains:oDomains f=.inl ():=by
 obtain⟨h1,h2⟩:=hv.bds;obtain⟨h3,h4⟩:=hv.tenants;have hb:=hv.bd;refine outcome_inl (by simp;omega) (firstErr_all fun i b hx=>?_)
 have hi:=(List.getElem?_eq_some_iff.1 hx).1;obtain⟨a1,a2,a3,a4,a5⟩:=hb i b hx;have hf1:=flag_false (fun x:BD=>x.VNI) f.BDs i b hx fun j y hj hy e=>by
  have:=(hb j y hy).2.2.1;have e':y.VNI=b.VNI:=e;omega
 have hf2:=flag_false (fun x:BD=>x.Target) f.BDs i b hx fun j y hj hy e=>by
  have:=(hb j y hy).2.2.2.1;grind
 have c1:¬(!(decide (0≤b.Tenant)&&decide (b.Tenant<(f.Tenants.length:Int))))=true:=by simp[a1,a2]
 have c2:¬decide (b.VNI<1)=true:=by simp;omega
 have c3:¬decide (16777215<b.VNI)=true:=by simp;omega
 have c4:¬(b.Target==0)=true:=by simp;omega
 have c5:¬(f.Tenants.any fun x=>x.VNI==b.VNI)=true:=by
  simp only[List.any_eq_true,beq_iff_eq,not_exists,not_and];intro t ht e;obtain⟨j,hj⟩:=List.getElem?_of_mem ht;have:=hv.ten j t hj;have hjl:=(List.getElem?_eq_some_iff.1 hj).1;rw[this]at e;simp only at e;omega
 have c6:¬(f.Tenants.any fun x=>x.Target==b.Target)=true:=by
  simp only[List.any_eq_true,beq_iff_eq,not_exists,not_and];intro t ht e;obtain⟨j,hj⟩:=List.getElem?_of_mem ht;have:=hv.ten j t hj;have hjl:=(List.getElem?_eq_some_iff.1 hj).1;rw[this]at e;simp only at e;omega
 rw[domE,if_neg c1,if_neg c2,if_neg c3,if_neg c4,hf1,if_neg (by decide),hf2,if_neg (by decide),if_neg c5,if_neg c6]
 rcases a5 with⟨e1,e2⟩ |⟨e1,e2⟩
 ·grind
 ·have c7:¬(b.Gateway==0)=true:=by simp;omega
  have c11:¬((f.BDs.take i).any (overS b.Tenant b.Subnet.IP b.Subnet.Len))=true:=by
   simp only[List.any_eq_true,not_exists,not_and];intro y hy ho;obtain⟨j,hj⟩:=List.getElem?_of_mem hy;rw[List.getElem?_take]at hj;split at hj
   ·rename_i hlt;obtain⟨-,-,-,-,a6⟩:=hb j y hj;simp only[overS,Bool.and_eq_true,bne_iff_ne]at ho;obtain⟨-,hg,hc⟩:=ho;rcases a6 with⟨e3,e4⟩ |⟨e3,e4⟩
    ·exact hg e4
    ·rw[e1,e3]at hc;simp only at hc;rcases(by omega:(j=0∧i=1)∨(j=0∧i=2)∨(j=0∧i=3)∨(j=1∧i=2)∨(j=1∧i=3)∨(j=2∧i=3))with⟨rfl,rfl⟩ |⟨rfl,rfl⟩ |⟨rfl,rfl⟩ |⟨rfl,rfl⟩ |⟨rfl,rfl⟩ |⟨rfl,rfl⟩<;>revert hc<;>decide
   ·cases hj
  have c8:¬(!cleanS b.Subnet)=true:=by
   rw[e1];rcases(by omega:i=0∨i=1∨i=2∨i=3)with rfl |rfl |rfl |rfl<;>decide
  have c9:¬out b.Subnet.Len 8 30=true:=by rw[e1];show ¬out 24 8 30=true;decide
  have c10:¬(!innerS b.Subnet b.Gateway)=true:=by
   rw[e1,e2];rcases(by omega:i=0∨i=1∨i=2∨i=3)with rfl |rfl |rfl |rfl<;>decide
  grind
theorem vf_segments:oSegments f=.inl ():=by
 obtain⟨h1,h2⟩:=hv.segments;refine outcome_inl (by simp;omega) (firstErr_all fun i x hx=>?_)
 have hi:=(List.getElem?_eq_some_iff.1 hx).1;obtain⟨⟨a1,a2,a3,a4⟩,⟨b1,b2,b3,b4⟩⟩:=hv.seg x (List.mem_of_getElem? hx);have c1:¬((x.Leaves.length:Int)==0)=true:=by simp only[beq_iff_eq];omega
 have c2:¬((x.BDs.length:Int)==0)=true:=by simp only[beq_iff_eq];omega
 have c3:¬(x.Leaves.any fun n=> !(decide (0≤n)&&decide (n<f.Leaves)))=true:=by
  simp only[List.any_eq_true,not_exists,not_and];intro y hy;have:=a3 y hy;simp[this.1,this.2]
 have c4:¬(x.BDs.any fun n=> !(decide (0≤n)&&decide (n<(f.BDs.length:Int))))=true:=by
  simp only[List.any_eq_true,not_exists,not_and];intro y hy;have:=b3 y hy;simp[this.1,this.2]
 have c5:¬(!ascB x.Leaves)=true:=by rw[asc_b a4];decide
 have c6:¬(!ascB x.BDs)=true:=by rw[asc_b b4];decide
 have c7:¬(x.Leaves.any fun n=>decide (32<(((f.Segments.take i).countP fun s=>s.Leaves.contains n:Nat):Int)+1))=true:=by
  simp only[List.any_eq_true,not_exists,not_and,decide_eq_true_eq];intro y hy;have h3:((f.Segments.take i).countP fun s=>s.Leaves.contains y)≤(f.Segments.take i).length:=List.countP_le_length
  have h4:(f.Segments.take i).length≤f.Segments.length:=by simp;omega
  omega
 rw[segE,if_neg c1,if_neg c2,if_neg c3,if_neg c4,if_neg c5,if_neg c6,if_neg c7]
theorem vf_hosts:oHosts f=.inl ():=by
 have h1:=hv.hosts;have hh:=hv.host;refine outcome_inl (by simp;omega) (firstErr_all fun i h hx=>?_)
 have hi:=(List.getElem?_eq_some_iff.1 hx).1;obtain⟨a1,a2,a3,a4,a5⟩:=hh i h hx;have hf1:=flag_false (fun x:Host=>(⟨x.BD,x.MAC⟩:tenant_place)) f.Hosts i h hx fun j y hj hy e=>by
  have:=(hh j y hy).1;grind
 have c1:¬(h.MAC==0)=true:=by simp;omega
 have c2:¬decide (281474976710655<h.MAC)=true:=by simp;omega
 have c3:¬castM h.MAC=true:=by
  rw[a1];rcases(by omega:i=0∨i=1∨i=2∨i=3∨i=4∨i=5∨i=6∨i=7)with rfl |rfl |rfl |rfl |rfl |rfl |rfl |rfl<;>decide
 have c4:¬(!(decide (0≤h.BD)&&decide (h.BD<(f.BDs.length:Int))))=true:=by simp[a2,a3]
 have hsr:h.Segment= -1∨0≤h.Segment∧h.Segment<(f.Segments.length:Int):=by
  rcases a4 with e |⟨s,hs,-⟩
  ·exact .inl e
  ·grind [at?]
 have c5:¬out h.Segment (-1) ((f.Segments.length:Int) - 1)=true:=by
  simp only[out,Bool.or_eq_true,decide_eq_true_eq,not_or];have:=hv.segments;omega
 have c6:¬(h.Segment != -1&& !(segBDs f h.Segment).any fun x=>h.BD==x)=true:=by
  rcases a4 with e |⟨s,hs,hm⟩
  ·rw[e];simp
  ·have:((segBDs f h.Segment).any fun x=>h.BD==x)=true:=by
    unfold segBDs;rw[hs];simp only[Option.map_some,Option.getD_some,List.any_eq_true];exact⟨h.BD,hm,by simp⟩
   rw[this];simp
 have c7:¬(h.MAC==1577058561)=true:=by simp;omega
 have c8:¬routerM h.MAC=true:=by
  simp only[routerM,Bool.and_eq_true,Bool.not_eq_true',decide_eq_false_iff_not,not_and];omega
 have hbd:=hv.bds;have key:h.IP≠0→∃d:Nat,d<4∧h.BD=(d:Int)∧h.IP=167772160+(d:Int)*65536+(10+(i:Int))∧(bdAt f h.BD).Gateway=167772161+(d:Int)*65536∧(bdAt f h.BD).Subnet=⟨167772160+(d:Int)*65536,24⟩:=by
  intro h0;rcases a5 with e |⟨b,hb,hg,e⟩
  ·exact absurd e h0
  ·obtain⟨d,hd⟩:∃d:Nat,h.BD=(d:Int):=⟨h.BD.toNat,by omega⟩
   have hbv:=hv.bd d b (by rw[hd,at?_nat]at hb;exact hb)
   obtain⟨-,-,-,-,e3 |e3⟩:=hbv
   ·exact absurd e3.2 hg
   ·refine⟨d,by omega,hd,?_,?_,?_⟩
    ·rw[e,e3.1]
    ·unfold bdAt;rw[hb];exact e3.2
    ·unfold bdAt;rw[hb];exact e3.1
 have c9:¬(!addressedS (bdAt f h.BD) h.IP)=true:=by
  by_cases h0:h.IP=0
  ·rw[h0];simp[addressedS]
  ·obtain⟨d,hd,-,e1,e2,e3⟩:=key h0;rw[addressedS,e1,e2,e3];have hi8:i<8:=by omega
   clear key a5 a4 c6 c5 hsr c8 c7 c4 c3 c2 c1 hf1 a1 a2 a3 hx hh hbd h1 hv e1 e2 e3 h0;rcases(by omega:d=0∨d=1∨d=2∨d=3)with rfl |rfl |rfl |rfl<;>
    rcases(by omega:i=0∨i=1∨i=2∨i=3∨i=4∨i=5∨i=6∨i=7)with rfl |rfl |rfl |rfl |rfl |rfl |rfl |rfl<;>decide
 have c10:¬(h.IP != 0&&(flagsF (fun x:Host=>(⟨x.BD,IntKind.wrap .u64 x.IP⟩:tenant_place)) [] f.Hosts).getD i false)=true:=by
  by_cases h0:h.IP=0
  ·rw[h0];simp
  ·obtain⟨d,hd,ed,e1,-,-⟩:=key h0;rw[flag_false (fun x:Host=>(⟨x.BD,IntKind.wrap .u64 x.IP⟩:tenant_place)) f.Hosts i h hx fun j y hj hy e=>by
    simp only[tenant_place.mk.injEq]at e;obtain⟨eb,ei⟩:=e;obtain⟨-,-,-,-,y5⟩:=hh j y hy;rcases y5 with y5 |⟨b,hb,hg,y5⟩
    ·rw[y5,e1]at ei;rcases(by omega:d=0∨d=1∨d=2∨d=3)with rfl |rfl |rfl |rfl<;>(simp only[IntKind.wrap,IntKind.bits,IntKind.signed]at ei;simp at ei;omega)
    ·have hbv:=hv.bd d b (by rw[eb,ed,at?_nat]at hb;exact hb)
     obtain⟨-,-,-,-,e3 |e3⟩:=hbv
     ·exact absurd e3.2 hg
     ·rw[y5,e3.1,e1]at ei;simp only[IntKind.wrap,IntKind.bits,IntKind.signed]at ei;simp at ei;omega]
   simp
 rw[hostE,if_neg c1,if_neg c2,if_neg c3,if_neg c4,if_neg c5,if_neg c6,if_neg c7,if_neg c8,if_neg c9,hf1,if_neg (by decide),if_neg c10]
theorem vf_fabric:oFabric f=.inl ():=by
 have hL:=hv.leaves;have hS:=hv.spines;have hw:IntKind.wrap .i64 (f.Leaves+f.Spines)=f.Leaves+f.Spines:=wrap_i64 (by omega) (by omega)
 have e1:=hv.elect;have e2:=hv.horizon;have e3:=hv.router;have:badFabric f=false:=by
  simp only[badFabric,out,hw,Bool.or_eq_false_iff,decide_eq_false_iff_not];omega
 rw[oFabric,this];rfl
theorem vf_timers:oTimers f=.inl ():=by
 obtain⟨t1,t2,t3,t4,t5,t6,t7,t8⟩:=hv.timers;have:badTimers f.Timers=false:=by
  simp only[badTimers,out,Bool.or_eq_false_iff,decide_eq_false_iff_not];omega
 rw[oTimers,this];rfl
theorem vf_check:checkS f=(0,⟨⟨[]⟩⟩,0):=by
 simp only[checkS,vf_fabric hv,vf_timers hv,vf_links hv,vf_tenants hv,vf_domains hv,vf_segments hv,vf_hosts hv,vf_leaks hv,thenR]
theorem vf_small:Small f:=by
 refine⟨?_,?_,?_,?_,?_,?_,fun s hs=>?_⟩
 ·have:=hv.links.1;omega
 ·have:=hv.tenants;omega
 ·have:=hv.bds;omega
 ·have:=hv.segments;omega
 ·have:=hv.hosts;omega
 ·have:=hv.leaks;omega
 ·obtain⟨⟨a1,a2,-⟩,⟨b1,b2,-⟩⟩:=hv.seg s hs;omega
end
end Go.L
end
