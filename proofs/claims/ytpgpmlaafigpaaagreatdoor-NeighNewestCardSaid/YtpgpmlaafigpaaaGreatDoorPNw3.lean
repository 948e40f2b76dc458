/- NeighNewest: the loop of the law. No conditions. -/
import Derived.Test.YtpgpmlaafigpaaaGreatDoorPNw2
import Derived.Test.YtpgpmlaafigpaaaGreatDoorWNw
namespace Go.L
open Go.AM
set_option maxRecDepth 100000
set_option linter.unusedVariables false
set_option linter.unusedSimpArgs false
def KO(x1 x2 x3:Int):V8 Int:=(@Go.AM.V8.mk Int x1 x2 (Go.IntKind.wrap .u8 (Int.fdiv x3 ((2:Int) ^ (@Min.min Nat instMinNat (Int.toNat (40:Int)) (Go.IntKind.bits .u64))))) (Go.IntKind.wrap .u8 (Int.fdiv x3 ((2:Int) ^ (@Min.min Nat instMinNat (Int.toNat (32:Int)) (Go.IntKind.bits .u64))))) (Go.IntKind.wrap .u8 (Int.fdiv x3 ((2:Int) ^ (@Min.min Nat instMinNat (Int.toNat (24:Int)) (Go.IntKind.bits .u64))))) (Go.IntKind.wrap .u8 (Int.fdiv x3 ((2:Int) ^ (@Min.min Nat instMinNat (Int.toNat (16:Int)) (Go.IntKind.bits .u64))))) (Go.IntKind.wrap .u8 (Int.fdiv x3 ((2:Int) ^ (@Min.min Nat instMinNat (Int.toNat (8:Int)) (Go.IntKind.bits .u64))))) (Go.IntKind.wrap .u8 x3))
def yx(t:Int):V8 Int:=KO 0 2 (Go.IntKind.wrap .u64 ((Go.IntKind.wrap .u64 ((Go.IntKind.wrap .u64 65000)*((2:Int) ^ (@Min.min Nat instMinNat (Int.toNat (32:Int)) (Go.IntKind.bits .u64)))))+(Go.IntKind.wrap .u64 t)))
def tI(s:Int):V8 Int:=KO 6 0 (Go.IntKind.wrap .u64 (0+(Go.IntKind.wrap .u64 s)))
theorem J8(n:Nat)(t:Int):At (xK.S n ((65000:Int),t)) (fun(r:V8 Int)=>r=yx t):=⟨_,rfl,rfl⟩
theorem Gc(n:Nat)(s:Int):At (uY.S n (false,s)) (fun(r:V8 Int)=>r=tI s):=⟨_,rfl,rfl⟩
def CV(far t s i:Int):aq:=
 Go.L.aq.mk (Go.L.gO.mk (2:Int) (0:Int) (@Go.AM.kZ.mk Int (0:Int) (0:Int) (0:Int) (0:Int) (0:Int) (0:Int) (0:Int) (0:Int) (0:Int) (0:Int)) (0:Int) (Go.IntKind.wrap .u64 (Go.IntKind.wrap .i64 ((2199023255552:Int)+i))) (167772237:Int) true (Go.L.Prefix.mk (0:Int) (0:Int)) (0:Int) (0:Int) (0:Int)) (Go.L.bE.mk (0:Int) [] far false (0:Int) false (0:Int) false (0:Int) [] [yx t,tI s] (Go.L.aC.mk (0:Int) (0:Int) (0:Int) (0:Int))) (0:Int) false
def jZ(l:List Int)(i:Nat):Int:=(l[i]?).getD 0
def yZ(far t:Int)(l:List Int)(j:Nat):List aq:=(List.range j).map fun i=>CV far t (jZ l i) (i:Int)
def xL(l:List Int)(j:Nat)(m:Int):Prop:=(j=0∧m=0)∨∃k:Nat,m=(k:Int)∧k<j∧∀i,i<j→i≠k→jZ l i<jZ l k∨(jZ l i=jZ l k∧k<i)
theorem xL.idx{l:List Int}{j:Nat}{m:Int}(h:xL l j m):∃k:Nat,m=(k:Int)∧k≤j∧(j=0→k=0)∧(0<j→k<j):=by
 rcases h with⟨rfl,rfl⟩ |⟨k,rfl,hk,_⟩
 ·exact⟨0,rfl,by omega,fun _=>rfl,fun h=>by omega⟩
 ·exact⟨k,rfl,by omega,fun h=>by omega,fun _=>hk⟩
theorem xL.stay{l:List Int}{j:Nat}{m:Int}(h:xL l j m){k:Nat}(hm:m=(k:Int))(hle:¬jZ l j>jZ l k):xL l (j+1) m:=by
 rcases h with⟨rfl,rfl⟩ |⟨k',hk',hk,ha⟩
 ·exact .inr ⟨0,rfl,by omega,fun i hi hne=>by omega⟩
 ·have:k'=k:=by omega
  subst this;refine .inr ⟨k',hk',by omega,fun i hi hne=>?_⟩
  by_cases he:i=j
  ·subst he;omega
  ·exact ha i (by omega) hne
theorem xL.move{l:List Int}{j:Nat}{m:Int}(h:xL l j m){k:Nat}(hm:m=(k:Int))(hgt:jZ l j>jZ l k):xL l (j+1) (j:Int):=by
 refine .inr ⟨j,rfl,by omega,fun i hi hne=>.inl ?_⟩
 rcases h with⟨rfl,rfl⟩ |⟨k',hk',hk,ha⟩
 ·omega
 ·have:k'=k:=by omega
  subst this;by_cases he:i=k'
  ·subst he;exact hgt
  ·rcases ha i (by omega) he with h |⟨h,_⟩<;>omega
theorem Sg(far t:Int)(l:List Int)(j:Nat):yZ far t l (j+1)=yZ far t l j++[CV far t (jZ l j) (j:Int)]:=by
 unfold yZ;rw[List.range_succ,List.map_append];rfl
end Go.L
