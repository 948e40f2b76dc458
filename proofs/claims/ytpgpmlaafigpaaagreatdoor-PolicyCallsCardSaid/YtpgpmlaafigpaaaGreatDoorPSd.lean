/- slices.Sorted of a map's keys: the keys in order, whatever order the map is gone through in. No conditions. -/
import Derived.Test.YtpgpmlaafigpaaaGreatDoorWIm1
import Derived.Test.YtpgpmlaafigpaaaGreatDoorPCn
namespace Go.L
open Go.AM
set_option maxRecDepth 100000
set_option linter.unusedVariables false
theorem sorted_perm{l l':List Int}(h:l.Perm l'):l.mergeSort Sn.le=l'.mergeSort Sn.le:=by
 have ht:∀a b c:Int,Sn.le a b=true→Sn.le b c=true→Sn.le a c=true:=by intro a b c;simp only[Sn.le,decide_eq_true_eq];omega
 have hto:∀a b:Int,(Sn.le a b||Sn.le b a)=true:=by intro a b;simp only[Sn.le,Bool.or_eq_true,decide_eq_true_eq];omega
 refine List.Perm.eq_of_pairwise (le:=fun a b=>Sn.le a b=true) (fun a b _ _ h1 h2=>?_) (List.pairwise_mergeSort ht hto l) (List.pairwise_mergeSort ht hto l') ?_
 ·simp only[Sn.le,decide_eq_true_eq]at h1 h2;omega
 ·exact(List.mergeSort_perm l _).trans (h.trans (List.mergeSort_perm l' _).symm)
def KG(m:List (Int×dO))(i:Nat):Int:=((m[i]?).map (·.1)).getD 0
theorem Pt(m:List (Int×dO)):(List.range m.length).map (KG m)=m.map (·.1):=by
 apply List.ext_getElem
 ·simp
 ·intro i h1 h2;have h:i<m.length:=by simpa using h1
  simp[KG,h]
theorem Pu(m:List (Int×dO))(n:Nat)(hm:m.length<1000000)(hn:m.length<n):
 dY n (nX m) (fun y=>y=(m.length,(m.map (·.1)).mergeSort Sn.le)):=by
 unfold nX;refine .skip<|.inl<|.skip<|.inl<|.skip<|.inl<|.skip<|.loop (fun a=>a.1.Nodup∧(∀i∈a.1,i<m.length)∧a.2=a.1.map (KG m)) (fun a=>m.length - a.1.length) (fun t=>t.2.Perm (m.map (·.1))) rfl ⟨List.nodup_nil,by simp,rfl⟩ (by simpa using hn) (fun a ha=>?_) (fun t ht=>?_)
 ·obtain⟨hnd,hlt,hk⟩:=ha;refine .pick (fun hall=>.skip<|.done rfl ?_) (fun i hi hns=>?_)
  ·show a.2.Perm _;rw[hk,← Pt];exact(JL hnd hlt hall).map _
  ·have hi':i<m.length:=hi;have hlen:a.1.length<m.length:=by
    have h1:(a.1++[i]).Nodup:=by
     rw[List.nodup_append];exact⟨hnd,by simp,fun x hx y hy=>by simp only[List.mem_singleton]at hy;subst hy;rintro rfl;exact hns hx⟩
    have h2:(a.1++[i]).length≤m.length:=by
     have:=List.Nodup.length_le_of_subset h1 (l₂:=List.range m.length) (fun x hx=>by
      rcases List.mem_append.1 hx with h |h
      ·exact List.mem_range.2 (hlt x h)
      ·simp only[List.mem_singleton]at h;subst h;exact List.mem_range.2 hi')
     simpa using this
    simp at h2;omega
   refine .skip<|.op (m[i]'hi') (List.getElem?_eq_getElem hi')<|.skip<|.inl<|.skip<|.op () ?_ <|.skip<|.tidy rfl<|.skip<|.done rfl ?_
   ·show(if _ then _ else _)=_
    rw[if_pos];refine⟨rfl,?_⟩;have:a.2.length=a.1.length:=by rw[hk];simp
    simp only[roomy,Bool.and_eq_true,decide_eq_true_eq,List.length_singleton,this];omega
   ·refine⟨⟨?_,fun x hx=>?_,?_⟩,?_⟩
    ·rw[List.nodup_append];exact⟨hnd,by simp,fun x hx y hy=>by simp only[List.mem_singleton]at hy;subst hy;rintro rfl;exact hns hx⟩
    ·rcases List.mem_append.1 hx with h |h
     ·exact hlt x h
     ·simp only[List.mem_singleton]at h;subst h;exact hi'
    ·show a.2++[(m[i]'hi').1]=_;rw[List.map_append,← hk];simp[KG,hi']
    ·show m.length - (a.1++[i]).length<m.length - a.1.length;simp;omega
 ·have hl:t.2.length=m.length:=by have:=ht.length_eq;simpa using this
  refine .tidy rfl<|.inl<|.skip<|.tidy rfl<|.inl<|.skip<|.tidy rfl<|.inl<|.skip<|.ax (fun r=>r=t.2.mergeSort Sn.le) ⟨_,if_pos (by omega),rfl⟩ fun r hr=>.skip<|.tidy rfl<|.inl<|.done rfl ?_
  show(t.2.length,r)=_;rw[hl,hr,sorted_perm ht];rfl
def IY(m:List (Int×dO)):Option (Nat×List Int):=if m.length<1000000 then some (m.length,(m.map (·.1)).mergeSort Sn.le)else none
theorem S6(m:List (Int×dO))(r:Nat×List Int)(h:IY m=some r):G.can (List.length m+1) (nX m) (fun y=>y=r):=by
 unfold IY at h;split at h
 ·rename_i hm;simp only[Option.some.injEq]at h;subst h;exact Pu m _ hm (Nat.lt_succ_self _)
 ·cases h
noncomputable def DU:yC prog:=DS.all (fun _ m=>IY m) fun n m r h=>
 ⟨_,G.dQ _ _ (fun y (hy:y=r)=>by rw[hy]) (S6 m r h)⟩
end Go.L
