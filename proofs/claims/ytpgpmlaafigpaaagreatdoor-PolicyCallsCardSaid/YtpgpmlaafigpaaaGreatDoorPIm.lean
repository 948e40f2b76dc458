/- The imports of a list for a route: the places of the imports that are selected, in strictly ascending order. No conditions. -/
import Derived.Test.YtpgpmlaafigpaaaGreatDoorWIm2
import Derived.Test.YtpgpmlaafigpaaaGreatDoorPMe
import Derived.Test.YtpgpmlaafigpaaaGreatDoorPAt
import Derived.Test.YtpgpmlaafigpaaaGreatDoorAd
namespace Go.L
open Go.AM
set_option maxRecDepth 100000
set_option linter.unusedVariables false
def gK(m:List (Int×dO)):List Int:=m.map (·.1)
theorem WQ(a b:Int):mF a b=decide (a=b):=by simp[mF,BEq.beq]
theorem HT:∀(m:List (Int×dO)) (k:Int) (j:Nat),bp mF k m j=none→k∉gK m
 | [],_,_,_=>by simp[gK]
 |p::ps,k,j,h=>by
  simp only[bp,WQ,decide_eq_true_eq]at h;split at h
  ·cases h
  ·rename_i hne;have:=HT ps k (j+1) h;simp only[gK,List.map_cons,List.mem_cons,not_or]at this ⊢;exact⟨hne,this⟩
theorem HV:∀(m:List (Int×dO)) (k:Int) (j i:Nat) (v:dO),bp mF k m j=some (i,v)→j≤i∧(gK m)[i - j]? =some k
 | [],_,_,_,_,h=>by simp[bp]at h
 |p::ps,k,j,i,v,h=>by
  simp only[bp,WQ,decide_eq_true_eq]at h;split at h
  ·rename_i he;simp only[Option.some.injEq,Prod.mk.injEq]at h;obtain⟨rfl,_⟩:=h;exact⟨Nat.le_refl _,by simp[gK,he]⟩
  ·obtain⟨h1,h2⟩:=HV ps k (j+1) i v h;refine⟨by omega,?_⟩
   have:i - j=(i - (j+1))+1:=by omega
   rw[this];simpa[gK]using h2
theorem W2(m:List (Int×dO))(k:Int)(v:dO)(hn:(gK m).Nodup):(gK (dx mF k v m)).Nodup∧(∀x,x∈gK (dx mF k v m)↔x∈gK m∨x=k)∧(dx mF k v m).length≤m.length+1:=by
 unfold dx;split
 ·rename_i i w hf;obtain⟨_,h2⟩:=HV m k 0 i w hf;simp only[Nat.sub_zero]at h2;have he:gK (m.set i (k,v))=gK m:=by
   simp only[gK,List.map_set]at h2 ⊢;obtain⟨hl,hg⟩:=List.getElem?_eq_some_iff.1 h2;rw[← hg];exact List.set_getElem_self hl
  rw[he];refine⟨hn,fun x=>⟨.inl,fun h=>?_⟩,by simp⟩
  rcases h with h |rfl
  ·exact h
  ·exact List.mem_of_getElem? h2
 ·rename_i hf;have h2:=HT m k 0 hf;have he:gK (m++[(k,v)])=gK m++[k]:=by simp[gK]
  rw[he];refine⟨?_,fun x=>by simp,by simp⟩
  rw[List.nodup_append];exact⟨hn,by simp,fun x hx y hy=>by simp only[List.mem_singleton]at hy;subst hy;rintro rfl;exact h2 hx⟩
noncomputable def hasB(n:Nat)(tg:List Int)(t:Int):Bool:=((nM.S n (tg,t):Option Bool)).getD false
noncomputable def Tu(n:Nat)(p q:Prefix):Bool:=((jC.S n (p,q):Option Bool)).getD false
noncomputable def yS(n:Nat)(tg:List Int)(pf:Prefix×Bool)(x:Import):Bool:=hasB n tg x.Target&&(!x.dB||(pf.2&&Tu n x.Prefix pf.1))
theorem Wz{n:Nat}{tg:List Int}(t:Int)(h:tg.length<1000000)(hn:tg.length<n):At (nM.S n (tg,t)) (fun b=>b=hasB n tg t):=by
 obtain⟨b,_,hb⟩:=UA (tg.length+1) tg t h (Nat.lt_succ_self _);have h2:(nM.S n (tg,t):Option Bool)=some b:=hb n (by omega)
 exact⟨b,h2,(congrArg (fun(o:Option Bool)=>o.getD false) h2).symm⟩
theorem WA{n:Nat}(p q:Prefix):At (jC.S n (p,q)) (fun b=>b=Tu n p q):=by
 obtain⟨b,_,hb⟩:=Pv 0 p q;have h2:(jC.S n (p,q):Option Bool)=some b:=hb n (Nat.zero_le _);exact⟨b,h2,(congrArg (fun(o:Option Bool)=>o.getD false) h2).symm⟩
def PO(n:Nat)(tg:List Int)(pf:Prefix×Bool)(l:List Import)(a:Int×List (Int×dO)):Prop:=
 ∃i:Nat,a.1=(i:Int)∧i≤l.length∧(gK a.2).Nodup∧a.2.length≤i∧∀k,k∈gK a.2↔∃x∈l.take i,yS n tg pf x=true∧x.Place=k
theorem PO.step{n:Nat}{tg:List Int}{pf:Prefix×Bool}{l:List Import}{a:Int×List (Int×dO)}(h:PO n tg pf l a)(hl:l.length<100000){x:Import}(hlt:a.1<(l.length:Int))(hx:l[a.1.toNat]? =some x)(m':List (Int×dO))
 (hm:(yS n tg pf x=true∧m'=dx mF x.Place Go.L.dO.mk a.2)∨(yS n tg pf x=false∧m'=a.2)):
 PO n tg pf l (Go.IntKind.wrap .i64 (a.1+1),m')∧l.length - (Go.IntKind.wrap .i64 (a.1+1)).toNat<l.length - a.1.toNat:=by
 obtain⟨i,hi,hil,hnd,hlen,hk⟩:=h;rw[hi]at hx hlt ⊢;simp only[Int.toNat_natCast]at hx;have hw:Go.IntKind.wrap .i64 ((i:Int)+1)=((i+1:Nat):Int):=by rw[wrap_i64 (by omega) (by omega)];rfl
 have hi':i<l.length:=by omega
 rw[hw];have ht:l.take (i+1)=l.take i++[x]:=by
  rw[List.take_add_one,hx];rfl
 refine⟨⟨i+1,rfl,by omega,?_⟩,by simp only[Int.toNat_natCast];omega⟩
 rcases hm with⟨hs,rfl⟩ |⟨hs,rfl⟩
 ·obtain⟨p1,p2,p3⟩:=W2 a.2 x.Place Go.L.dO.mk hnd;refine⟨p1,Nat.le_trans p3 (Nat.succ_le_succ hlen),fun k=>?_⟩
  show k∈gK (dx _ _ _ _)↔_;rw[p2,hk,ht];constructor
  ·rintro(⟨y,hy,h1,h2⟩ |rfl)
   ·exact⟨y,List.mem_append_left _ hy,h1,h2⟩
   ·exact⟨x,by simp,hs,rfl⟩
  ·rintro⟨y,hy,h1,h2⟩;rcases List.mem_append.1 hy with hy |hy
   ·exact .inl ⟨y,hy,h1,h2⟩
   ·simp only[List.mem_singleton]at hy;subst hy;exact .inr h2.symm
 ·refine⟨hnd,Nat.le_succ_of_le hlen,fun k=>?_⟩
  rw[hk,ht];constructor
  ·rintro⟨y,hy,h1,h2⟩;exact⟨y,List.mem_append_left _ hy,h1,h2⟩
  ·rintro⟨y,hy,h1,h2⟩;rcases List.mem_append.1 hy with hy |hy
   ·exact⟨y,hy,h1,h2⟩
   ·simp only[List.mem_singleton]at hy;subst hy;rw[hs]at h1;cases h1
def Vw(n:Nat)(tg:List Int)(pf:Prefix×Bool)(l:List Import)(out:List Int):Prop:=
 (out.Pairwise (· < ·)∧out.length≤l.length)∧∀k,k∈out↔∃x∈l,yS n tg pf x=true∧x.Place=k
theorem PS(n:Nat)(r:aq)(tg:List Int)(pf:Prefix×Bool)(ht:eR.S n r.A.aY=some tg)(hp:jg.S n r=some pf)(htl:tg.length<1000000)(htn:tg.length<n)(l:List Import)(hl:l.length<100000)(hn:l.length<n):
 At (qD.S n (l,r)) (Vw n tg pf l):=by
 refine(?_ :gB n (uJ l r) _);unfold uJ;refine .skip (.call (fun q=>q=tg) ⟨tg,ht,rfl⟩ fun q hq=>?_)
 subst hq;refine .skip (.call (fun q=>q=pf) ⟨pf,hp,rfl⟩ fun q' hq=>?_)
 subst hq;refine .skip (.op () rfl (.skip (.loop (PO n q q' l) (fun a=>l.length - a.1.toNat) (fun t=>(gK t).Nodup∧t.length≤l.length∧∀k,k∈gK t↔∃x∈l,yS n q q' x=true∧x.Place=k) rfl
  ⟨0,rfl,Nat.zero_le _,List.nodup_nil,Nat.le_refl _,by simp[gK]⟩ (by show l.length - 0<n;omega) (fun a ha=>?_) (fun t hq=>?_))))
 ·refine .skip (.br (fun h=>.skip ?_) (fun h=>.skip (.done rfl ?_)))
  ·simp only[decide_eq_true_eq]at h;have h0:0≤a.1:=by obtain⟨i,hi,_⟩:=ha;omega
   have hlt:a.1.toNat<l.length:=by omega
   have hx:l[a.1.toNat]? =some (l[a.1.toNat]):=List.getElem?_eq_getElem hlt;refine .op (l[a.1.toNat]) ?_ (.skip (.call _ (Wz _ htl htn) fun b hb=>.skip (.br (fun hb1=>.skip (.br (fun hpx=>.skip (.op () rfl (.skip (.done rfl ?_)))) fun hpx=>.skip (.br (fun hp2=>.skip (.call _ (WA _ _) fun c hc=>.skip (.br (fun hc1=>.skip (.op () rfl (.skip (.done rfl ?_)))) fun hc1=>.skip (.done rfl ?_)))) fun hp2=>.skip (.done rfl ?_)))) fun hb1=>.skip (.done rfl ?_))))
   ·show gi l a.1=_;simp[gi,h0,hlt]
   ·refine ha.step hl h hx _ (.inl ⟨?_,rfl⟩);subst hb;simp only[yS,hb1,hpx,Bool.true_and,Bool.true_or]
   ·refine ha.step hl h hx _ (.inl ⟨?_,rfl⟩);subst hb;subst hc;simp only[yS,hb1,hp2,hc1,Bool.true_and,Bool.or_true]
   ·refine ha.step hl h hx _ (.inr ⟨?_,rfl⟩);subst hb;subst hc;simp only[yS,hb1,hp2,hc1,hpx,Bool.and_false,Bool.or_false]
   ·refine ha.step hl h hx _ (.inr ⟨?_,rfl⟩);subst hb;simp only[yS,hb1,hp2,hpx,Bool.true_and,Bool.false_and,Bool.or_false]
   ·refine ha.step hl h hx _ (.inr ⟨?_,rfl⟩);subst hb;simp only[yS,hb1,Bool.false_and]
  ·simp only[decide_eq_false_iff_not]at h;obtain⟨i,hi,hil,hnd,hlen,hk⟩:=ha;have:i=l.length:=by omega
   subst this;rw[List.take_length]at hk;exact⟨hnd,hlen,hk⟩
 ·obtain⟨hnd,hlen,hk⟩:=hq;have hms:((gK t).mergeSort Sn.le).length=t.length:=by rw[List.length_mergeSort];exact List.length_map ..
  refine .skip (.inl (.skip (.tidy rfl (.inl (.inl (.fK (fun(y:Nat×List Int)=>y=(t.length,(gK t).mergeSort Sn.le)) ⟨(t.length,(gK t).mergeSort Sn.le),if_pos (by show t.length<1000000;omega),rfl⟩ fun y hy=>.skip (.done ?_ ?_)))))))
  ·rw[show y=(t.length,(gK t).mergeSort Sn.le)from hy];simp only[aI,bh,Bool.and_true];exact decide_eq_true (by rw[List.length_map];exact hms.symm)
  ·rw[show y=(t.length,(gK t).mergeSort Sn.le)from hy];have hperm:=List.mergeSort_perm (gK t) Sn.le;refine⟨⟨?_,by show((gK t).mergeSort Sn.le).length≤_;rw[hms];exact hlen⟩,fun k=>?_⟩
   ·have h1:=List.pairwise_mergeSort (le:=Sn.le) (by intro a b c;simp only[Sn.le,decide_eq_true_eq];omega) (by intro a b;simp only[Sn.le,Bool.or_eq_true,decide_eq_true_eq];omega) (gK t)
    have h2:((gK t).mergeSort Sn.le).Nodup:=hperm.nodup_iff.2 hnd;exact(h1.and h2).imp fun {a b} h=>by have:=h.1;simp only[Sn.le,decide_eq_true_eq]at this;have:=h.2;omega
   ·rw[hperm.mem_iff];exact hk k
end Go.L
