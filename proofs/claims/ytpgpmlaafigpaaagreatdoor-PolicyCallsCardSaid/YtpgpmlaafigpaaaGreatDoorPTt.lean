/- What comm.Targets and kit.Has compute. No conditions. -/
import Derived.Test.YtpgpmlaafigpaaaGreatDoorWTe3
import Derived.Test.YtpgpmlaafigpaaaGreatDoorWIm2
import Derived.Test.YtpgpmlaafigpaaaGreatDoorPSv
import Derived.Test.YtpgpmlaafigpaaaGreatDoorPTl
namespace Go.L
open Go.AM Go.Sort
set_option maxRecDepth 100000
set_option linter.unusedSimpArgs false
set_option linter.unusedVariables false
def oH(c:V8 Int):Int:=
 if c.a0=0∧c.a1=2 then 1 else if c.a0=3∧c.a1=12 then 2 else if c.a0=6∧c.a1=0 then 3 else if c.a0=6∧c.a1=1 then 4 else if c.a0=6∧c.a1=2 then 5 else if c.a0=6∧c.a1=3 then 6 else if c.a0=6∧c.a1=6 then 7 else 0
theorem Tc(n:Nat)(c:V8 Int):ur.S n c=some (oH c):=by
 show(BW c).run n=_;simp only[BW,G.run,aI,if_true,oH,Bool.and_true,Bool.and_eq_true,beq_iff_eq];have e:∀(a b:Int),(a=b)=(b=a):=fun a b=>propext eq_comm
 simp only[e 0,e 1,e 2,e 3,e 6,e 12]
 repeat' split
 all_goals rfl
theorem Rn{n:Nat}(c:V8 Int){β:Type}(k:ur.sh.El→Option β):(ur.S n c).bind k=k (oH c):=by rw[Tc];rfl
def gz(a x:Int):Int:=Go.IntKind.wrap .u64 (((@BitVec.toNat (Go.IntKind.bits .u64) ((BitVec.ofInt (Go.IntKind.bits .u64) (Go.IntKind.wrap .u64 (a*((2:Int) ^ (@Min.min Nat instMinNat (Int.toNat (8:Int)) (Go.IntKind.bits .u64))))))||| (BitVec.ofInt (Go.IntKind.bits .u64) (Go.IntKind.wrap .u64 x)))):Nat):Int)
theorem KH{i:Nat}(h:i<1000000):Go.IntKind.wrap .i64 ((i:Int)+1)=((i+1:Nat):Int):=by rw[wrap_i64 (by omega) (by omega)];omega
def fW(c:V8 Int):Option Int:=if oH c=1∧gz (gz 0 c.a2) c.a3=65000 then some (Go.IntKind.wrap .u32 (gz (gz (gz (gz 0 c.a4) c.a5) c.a6) c.a7))else none
theorem LR{c:V8 Int}(h:oH c≠1):fW c=none:=by unfold fW;rw[if_neg (fun q=>h q.1)]
theorem Ro{N n:Nat}(l:List Int)(hn:l.length=n){β:Type}(k:iz.sh.El→Option β):(iz.S N (l,n)).bind k=k (Lib.compact l):=by
 have:iz.S N (l,n)=some (Lib.compact l):=by
  show Ak (l,n)=_;unfold Ak;rw[if_pos hn.symm]
 rw[this];rfl
theorem B4(M:Nat)(l:List (V8 Int))(hl:l.length<1000)(hN:l.length+10<M):eR.S M l=some (uniq (l.filterMap fW)):=by
 show(xg l).run M=_;simp only[xg,G.run,aI,if_true,bD,cn,Rn];refine kP (I:=fun s=>∃i:Nat,s=((i:Int),(l.take i).filterMap fW)∧i≤l.length) (m:=fun s=>l.length - s.1.toNat) (F:=fun _=>l.filterMap fW) ⟨0,rfl,Nat.zero_le _⟩ (by simp;omega) (fun s hs=>?_) ?_
 ·obtain⟨i,rfl,hi⟩:=hs;by_cases he:i=l.length
  ·left;subst he;rw[if_neg (by simp)]
   simp
  ·right;have hil:i<l.length:=by omega
   have e1:gi l (i:Int)=some l[i]:=by rw[bQ];exact List.getElem?_eq_getElem hil
   have e2:(l.take (i+1)).filterMap fW=(l.take i).filterMap fW++(fW l[i]).toList:=by
    rw[List.take_add_one,List.filterMap_append,List.getElem?_eq_getElem hil];cases h:fW l[i]<;>simp[h]
   have hroom:((l.take i).filterMap fW).length≤i:=Nat.le_trans (List.length_filterMap_le _ _) (by simp;omega)
   refine⟨(((i+1:Nat):Int),(l.take (i+1)).filterMap fW),?_,⟨i+1,rfl,by omega⟩,rfl,by simp only[Int.toNat_natCast];omega⟩
   rw[if_pos (by simp;omega)]
   simp only[e1,Option.bind_some,vc,KH (show i<1000000 by omega)]
   rw[e2];by_cases hk:oH l[i]=1
   ·rw[if_pos (by simpa using hk)]
    by_cases ha:gz (gz 0 l[i].a2) l[i].a3=65000
    ·have ht:fW l[i]=some (Go.IntKind.wrap .u32 (gz (gz (gz (gz 0 l[i].a4) l[i].a5) l[i].a6) l[i].a7)):=by unfold fW;rw[if_pos ⟨hk,ha⟩]
     rw[ht];refine(if_pos (show(gz (gz 0 l[i].a2) l[i].a3==65000)=true by simpa using ha)).trans ?_
     refine(if_pos ⟨trivial,by simp[roomy];omega⟩).trans ?_
     rfl
    ·have ht:fW l[i]=none:=by unfold fW;rw[if_neg (fun q=>ha q.2)]
     rw[ht];refine(if_neg (show ¬(gz (gz 0 l[i].a2) l[i].a3==65000)=true by simpa using ha)).trans ?_
     simp
   ·rw[if_neg (by simpa using hk),LR hk]
    simp
 ·have hT:(l.filterMap fW).length≤l.length:=List.length_filterMap_le _ _;refine(Vr (l.filterMap fW) rfl (by omega) (by omega) _).trans ?_
  refine(Ro _ (by simp) _).trans ?_
  exact if_pos (by simp[bh])
theorem N5(M:Nat)(l:List Int)(x:Int)(hl:l.length<100000)(hN:l.length+1<M):oh.S M (l,x)=some (decide (x∈l)):=by
 show(yE l x).run M=_;simp only[yE,G.run,aI,if_true,bD,cn];refine qd (I:=fun s=>∃i:Nat,s=(i:Int)∧i≤l.length∧∀j,j<i→l[j]? ≠some x) (m:=fun s=>l.length - s.toNat) (Q:=fun t=>(t=.inl ()∧x∈l)∨(t=.inr ()∧x∉l)) ⟨0,rfl,Nat.zero_le _,fun j hj=>absurd hj (Nat.not_lt_zero _)⟩ (by simp;omega) (fun s hs=>?_) (fun t ht=>?_)
 ·obtain⟨i,rfl,hi,hno⟩:=hs;by_cases he:i=l.length
  ·left;subst he;rw[if_neg (by simp)]
   refine⟨_,rfl,.inr ⟨rfl,fun h=>?_⟩⟩
   obtain⟨j,h1,h2⟩:=List.getElem_of_mem h;exact hno j h1 (by rw[List.getElem?_eq_getElem h1,h2])
  ·have hil:i<l.length:=by omega
   have e1:gi l (i:Int)=some l[i]:=by rw[bQ];exact List.getElem?_eq_getElem hil
   rw[if_pos (by simp;omega),e1]
   simp only[Option.bind_some,KH (show i<1000000 by omega)]
   by_cases hx:l[i]=x
   ·left;rw[if_pos (by simpa using hx)]
    exact⟨_,rfl,.inl ⟨rfl,by rw[← hx];exact List.getElem_mem hil⟩⟩
   ·right;rw[if_neg (by simpa using hx)]
    refine⟨_,rfl,⟨i+1,rfl,by omega,fun j hj=>?_⟩,by simp only[Int.toNat_natCast];omega⟩
    by_cases hji:j=i
    ·subst hji;rw[List.getElem?_eq_getElem hil];simpa using hx
    ·exact hno j (by omega)
 ·rcases ht with⟨rfl,h⟩ |⟨rfl,h⟩
  ·rw[decide_eq_true h];rfl
  ·rw[decide_eq_false h];rfl
end Go.L
