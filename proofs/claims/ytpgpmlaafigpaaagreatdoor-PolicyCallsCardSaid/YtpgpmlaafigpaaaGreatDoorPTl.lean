/- Compact of a sorted list of numbers: strictly ascending, the same members. No conditions. -/
import Derived.Lib.SlicesCompact
namespace Go.L
open Go.Lib
theorem v7(d:Array Int):∀(m:Nat) (x:Int),x∈compactUpTo d m↔∃j,j<m∧d[j]! =x
 | 0,x=>by simp[compactUpTo]
 |m+1,x=>by
  rw[compactUpTo_succ,List.mem_append,v7 d m x];by_cases hk:keeps d m=true
  ·rw[if_pos hk];constructor
   ·rintro(⟨j,h1,h2⟩ |h)
    ·exact⟨j,by omega,h2⟩
    ·exact⟨m,by omega,(List.mem_singleton.1 h).symm⟩
   ·rintro⟨j,h1,h2⟩;by_cases hj:j=m
    ·subst hj;exact .inr (by rw[h2];exact List.mem_singleton.2 rfl)
    ·exact .inl ⟨j,by omega,h2⟩
  ·rw[if_neg hk];have hk2:m≠0∧d[m]! =d[m - 1]! :=by
    unfold keeps at hk;simp only[decide_eq_true_eq,not_or,Decidable.not_not]at hk;exact hk
   constructor
   ·rintro(⟨j,h1,h2⟩ |h)
    ·exact⟨j,by omega,h2⟩
    ·cases h
   ·rintro⟨j,h1,h2⟩;by_cases hj:j=m
    ·subst hj;exact .inl ⟨j - 1,by omega,by rw[← hk2.2];exact h2⟩
    ·exact .inl ⟨j,by omega,h2⟩
theorem xk(d:Array Int)(n:Nat)(hs:∀i j:Nat,i<j→j<n→d[i]! ≤d[j]!):∀m:Nat,m≤n→(compactUpTo d m).Pairwise (fun a b=>a<b)
 | 0,_=>by simp[compactUpTo]
 |m+1,h=>by
  rw[compactUpTo_succ];by_cases hk:keeps d m=true
  ·rw[if_pos hk,List.pairwise_append];refine⟨xk d n hs m (by omega),by simp,fun a ha b hb=>?_⟩
   obtain rfl:=List.mem_singleton.1 hb;obtain⟨j,h1,rfl⟩:=(v7 d m a).1 ha;have hne:d[m]! ≠d[m - 1]! :=by
    unfold keeps at hk;simp only[decide_eq_true_eq]at hk;rcases hk with h0 |h0
    ·omega
    ·exact h0
   have h2:d[m - 1]! ≤d[m]! :=hs (m - 1) m (by omega) (by omega)
   have h3:d[j]! ≤d[m - 1]! :=by
    by_cases hj:j=m - 1
    ·subst hj;exact Int.le_refl _
    ·exact hs j (m - 1) (by omega) (by omega)
   omega
  ·rw[if_neg hk,List.append_nil];exact xk d n hs m (by omega)
def uniq(l:List Int):List Int:=compact (l.mergeSort (fun x y=>decide (x≤y)))
theorem LQ{l:List Int}{x:Int}:x∈uniq l↔x∈l:=by
 unfold uniq compact;rw[v7];rw[← List.mem_mergeSort (le:=fun x y=>decide (x≤y))]
 generalize l.mergeSort (fun x y=>decide (x≤y))=s
 constructor
 ·rintro⟨j,h1,rfl⟩;rw[getElem!_pos s.toArray j (by simpa using h1)]
  simp
 ·intro h;obtain⟨j,h1,rfl⟩:=List.getElem_of_mem h;exact⟨j,h1,by rw[getElem!_pos s.toArray j (by simpa using h1)];simp⟩
theorem B0(l:List Int):(uniq l).Pairwise (fun a b=>a<b):=by
 unfold uniq compact;have hs:=List.pairwise_mergeSort (le:=fun x y:Int=>decide (x≤y)) (fun a b c h1 h2=>by simp only[decide_eq_true_eq]at*;omega) (fun a b=>by simp only[Bool.or_eq_true,decide_eq_true_eq];omega) l
 generalize l.mergeSort (fun x y=>decide (x≤y))=s at*
 refine xk s.toArray s.length (fun i j h1 h2=>?_) s.length (Nat.le_refl _)
 rw[getElem!_pos s.toArray i (by simp;omega),getElem!_pos s.toArray j (by simpa using h2)]
 simp only[List.getElem_toArray];have:=List.pairwise_iff_getElem.1 hs i j (by omega) h2 h1
 simpa using this
end Go.L
