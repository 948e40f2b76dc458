/- Has and Same on communities. No conditions. -/
import Derived.Test.YtpgpmlaafigpaaaGreatDoorWPq2
import Derived.Test.YtpgpmlaafigpaaaGreatDoorPSs
import Derived.Sort.Walk0
import Derived.Laws.Strings
namespace Go.L
open Go.AM Go.Sort Go.Proofs
set_option maxRecDepth 100000
set_option linter.unusedSimpArgs false
set_option linter.unusedVariables false
theorem L3(M:Nat)(l:List (V8 Int))(x:V8 Int)(hl:l.length<100000)(hN:l.length+1<M):qg.S M (l,x)=some (decide (x∈l)):=by
 show(xq l x).run M=_;simp only[xq,G.run,aI,if_true,bD,cn,LW];refine qd (I:=fun s=>∃i:Nat,s=(i:Int)∧i≤l.length∧∀j,j<i→l[j]? ≠some x) (m:=fun s=>l.length - s.toNat) (Q:=fun t=>(t=.inl ()∧x∈l)∨(t=.inr ()∧x∉l)) ⟨0,rfl,Nat.zero_le _,fun j hj=>absurd hj (Nat.not_lt_zero _)⟩ (by simp;omega) (fun s hs=>?_) (fun t ht=>?_)
 ·obtain⟨i,rfl,hi,hno⟩:=hs;by_cases he:i=l.length
  ·left;subst he;rw[if_neg (by simp)]
   refine⟨_,rfl,.inr ⟨rfl,fun h=>?_⟩⟩
   obtain⟨j,h1,h2⟩:=List.getElem_of_mem h;exact hno j h1 (by rw[List.getElem?_eq_getElem h1,h2])
  ·have hil:i<l.length:=by omega
   have e1:gi l (i:Int)=some l[i]:=by rw[bQ];exact List.getElem?_eq_getElem hil
   rw[if_pos (by simp;omega),e1]
   simp only[Option.bind_some,bG (x:=(i:Int)+1) (n:=i+1) (by omega) (by omega)]
   by_cases hx:l[i]=x
   ·left;rw[if_pos (by simpa using hx)]
    exact⟨_,rfl,.inl ⟨rfl,by rw[← hx];exact List.getElem_mem hil⟩⟩
   ·right;rw[if_neg (by simpa using hx)]
    refine⟨_,rfl,⟨i+1,rfl,by omega,fun j hj=>?_⟩,by simp only[Int.toNat_natCast];omega⟩
    by_cases hji:j=i
    ·subst hji;rw[List.getElem?_eq_getElem hil];simpa using hx
    ·exact hno j (by omega)
 ·rcases ht with⟨rfl,h⟩ |⟨rfl,h⟩
  ·rw[decide_eq_true h];rfl
  ·rw[decide_eq_false h];rfl
end Go.L
