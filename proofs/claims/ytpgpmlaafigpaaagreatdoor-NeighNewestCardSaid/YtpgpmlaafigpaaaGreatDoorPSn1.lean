/- The keys of a map of places in order, whatever order it is gone through in. No conditions. -/
import Derived.Test.YtpgpmlaafigpaaaGreatDoorWNk1
import Derived.Test.YtpgpmlaafigpaaaGreatDoorPCn
namespace Go.L
open Go.AM
set_option maxRecDepth 100000
set_option linter.unusedVariables false
set_option linter.unusedSimpArgs false
theorem Md{l l':List au}(h:l.Perm l'):gA l=gA l':=by
 refine List.Perm.eq_of_pairwise (le:=fun a b=>¬B8 b a) (fun a b _ _ h1 h2=>?_) (rz l).2 (rz l').2 ((rz l).1.trans (h.trans (rz l').1.symm))
 unfold B8 at h1 h2;have e1:a.bd=b.bd:=by omega
 have e2:a.ip=b.ip:=by omega
 cases a;cases b;simp only at e1 e2;subst e1;subst e2;rfl
def KK(m:List (au×ak))(i:Nat):au:=((m[i]?).map (·.1)).getD ⟨0,0⟩
theorem Me(m:List (au×ak)):(List.range m.length).map (KK m)=m.map (·.1):=by
 apply List.ext_getElem
 ·simp
 ·intro i h1 h2;have h:i<m.length:=by simpa using h1
  simp[KK,h]
theorem Mf(m:List (au×ak))(n:Nat)(hm:m.length<1000000)(hn:m.length<n):
 dY n (gW m) (fun y=>y=(m.length,gA (m.map (·.1)))):=by
 unfold gW;refine .skip<|.inl<|.skip<|.inl<|.skip<|.inl<|.skip<|.loop (fun a=>a.1.Nodup∧(∀i∈a.1,i<m.length)∧a.2=a.1.map (KK m)) (fun a=>m.length - a.1.length) (fun t=>t.2.Perm (m.map (·.1))) rfl ⟨List.nodup_nil,by simp,rfl⟩ (by simpa using hn) (fun a ha=>?_) (fun t ht=>?_)
 ·obtain⟨hnd,hlt,hk⟩:=ha;refine .pick (fun hall=>.skip<|.done rfl ?_) (fun i hi hns=>?_)
  ·show a.2.Perm _;rw[hk,← Me];exact(JL hnd hlt hall).map _
  ·have hi':i<m.length:=hi;have hlen:a.1.length<m.length:=by
    have h1:(a.1++[i]).Nodup:=by
     rw[List.nodup_append];exact⟨hnd,by simp,fun x hx y hy=>by simp only[List.mem_singleton]at hy;subst hy;rintro rfl;exact hns hx⟩
    have h2:(a.1++[i]).length≤m.length:=by
     have:=List.Nodup.length_le_of_subset h1 (l₂:=List.range m.length) (fun x hx=>by
      rcases List.mem_append.1 hx with h |h
      ·exact List.mem_range.2 (hlt x h)
      ·simp only[List.mem_singleton]at h;subst h;exact List.mem_range.2 hi')
     simpa using this
    simp at h2;omega
   refine .skip<|.op (m[i]'hi') (List.getElem?_eq_getElem hi')<|.skip<|.inl<|.skip<|.op () ?_ <|.skip<|.tidy rfl<|.skip<|.done rfl ?_
   ·show(if _ then _ else _)=_
    rw[if_pos];refine⟨rfl,?_⟩;have:a.2.length=a.1.length:=by rw[hk];simp
    simp only[roomy,Bool.and_eq_true,decide_eq_true_eq,List.length_singleton,this];omega
   ·refine⟨⟨?_,fun x hx=>?_,?_⟩,?_⟩
    ·rw[List.nodup_append];exact⟨hnd,by simp,fun x hx y hy=>by simp only[List.mem_singleton]at hy;subst hy;rintro rfl;exact hns hx⟩
    ·rcases List.mem_append.1 hx with h |h
     ·exact hlt x h
     ·simp only[List.mem_singleton]at h;subst h;exact hi'
    ·show a.2++[(m[i]'hi').1]=_;rw[List.map_append,← hk];simp[KK,hi']
    ·show m.length - (a.1++[i]).length<m.length - a.1.length;simp;omega
 ·have hl:t.2.length=m.length:=by have:=ht.length_eq;simpa using this
  refine .tidy rfl<|.inl<|.skip<|.tidy rfl<|.inl<|.skip<|.tidy rfl<|.inl<|.skip<|.ax (fun r=>r=gA t.2) ⟨_,if_pos (by omega),rfl⟩ fun r hr=>.skip<|.tidy rfl<|.inl<|.done rfl ?_
  show(t.2.length,r)=_;rw[hl,hr,Md ht];rfl
noncomputable def EY(m:List (au×ak)):Option (Nat×List au):=if m.length<1000000 then some (m.length,gA (m.map (·.1)))else none
theorem P3(m:List (au×ak))(r:Nat×List au)(h:EY m=some r):G.can (List.length m+1) (gW m) (fun y=>y=r):=by
 unfold EY at h;split at h
 ·rename_i hm;simp only[Option.some.injEq]at h;subst h;exact Mf m _ hm (Nat.lt_succ_self _)
 ·cases h
noncomputable def vr:yC prog:=vq.all (fun _ m=>EY m) fun n m r h=>
 ⟨_,G.dQ _ _ (fun y (hy:y=r)=>by rw[hy]) (P3 m r h)⟩
end Go.L
