/- Kinds of communities, and targets told. No conditions. -/
import Derived.Test.YtiohninblcifpaaGreatDoorWt
import Derived.Test.YtiohninblcifpaaGreatDoorAd
set_option linter.unusedSimpArgs false
set_option linter.unusedVariables false
set_option maxRecDepth 100000
namespace Go.L
open Go.AM
def D0(c:V8 Int):Int:=
 if c.a0=0∧c.a1=2 then 1 else if c.a0=3∧c.a1=12 then 2 else if c.a0=6∧c.a1=0 then 3 else if c.a0=6∧c.a1=1 then 4 else if c.a0=6∧c.a1=2 then 5 else if c.a0=6∧c.a1=3 then 6 else if c.a0=6∧c.a1=6 then 7 else 0
theorem PT(n:Nat)(c:V8 Int):oV.S n c=some (D0 c):=by
 show(uc c).run n=_;simp only[uc,G.run,aZ,if_true,D0,Bool.and_true,Bool.and_eq_true,beq_iff_eq];have e:∀(a b:Int),(a=b)=(b=a):=fun a b=>propext eq_comm
 simp only[e 0,e 1,e 2,e 3,e 6,e 12]
 repeat' split
 all_goals rfl
theorem RZ{n:Nat}(c:V8 Int){β:Type}(k:oV.sh.El→Option β):(oV.S n c).bind k=k (D0 c):=by rw[PT];rfl
def ym(a x:Int):Int:=Go.IntKind.wrap .u64 (((@BitVec.toNat (Go.IntKind.bits .u64) ((BitVec.ofInt (Go.IntKind.bits .u64) (Go.IntKind.wrap .u64 (a*((2:Int) ^ (@Min.min Nat instMinNat (Int.toNat (8:Int)) (Go.IntKind.bits .u64))))))||| (BitVec.ofInt (Go.IntKind.bits .u64) (Go.IntKind.wrap .u64 x)))):Nat):Int)
theorem SD{i:Nat}(h:i<1000000):Go.IntKind.wrap .i64 ((i:Int)+1)=((i+1:Nat):Int):=by rw[wrap_i64 (by omega) (by omega)];omega
def rB(c:V8 Int):Option Int:=if D0 c=1∧ym (ym 0 c.a2) c.a3=65000 then some (Go.IntKind.wrap .u32 (ym (ym (ym (ym 0 c.a4) c.a5) c.a6) c.a7))else none
theorem PV{c:V8 Int}(h:D0 c≠1):rB c=none:=by unfold rB;rw[if_neg (fun q=>h q.1)]
end Go.L
