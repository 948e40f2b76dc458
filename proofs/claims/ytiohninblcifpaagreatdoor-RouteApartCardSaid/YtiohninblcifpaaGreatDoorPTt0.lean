/- Kinds of communities, and targets told. No conditions. -/
import Derived.Test.YtiohninblcifpaaGreatDoorWt
import Derived.Test.YtiohninblcifpaaGreatDoorAd
set_option linter.unusedSimpArgs false
set_option linter.unusedVariables false
set_option maxRecDepth 100000
namespace Go.L
open Go.AM
def oG(c:V8 Int):Int:=
 if c.a0=0∧c.a1=2 then 1 else if c.a0=3∧c.a1=12 then 2 else if c.a0=6∧c.a1=0 then 3 else if c.a0=6∧c.a1=1 then 4 else if c.a0=6∧c.a1=2 then 5 else if c.a0=6∧c.a1=3 then 6 else if c.a0=6∧c.a1=6 then 7 else 0
theorem KZ(n:Nat)(c:V8 Int):ov.S n c=some (oG c):=by
 show(tR c).run n=_;simp only[tR,G.run,aO,if_true,oG,Bool.and_true,Bool.and_eq_true,beq_iff_eq];have e:∀(a b:Int),(a=b)=(b=a):=fun a b=>propext eq_comm
 simp only[e 0,e 1,e 2,e 3,e 6,e 12]
 repeat' split
 all_goals rfl
theorem TD{n:Nat}(c:V8 Int){β:Type}(k:ov.sh.El→Option β):(ov.S n c).bind k=k (oG c):=by rw[KZ];rfl
def kg(a x:Int):Int:=IntKind.wrap .u64 (((@BitVec.toNat (IntKind.bits .u64) ((BitVec.ofInt (IntKind.bits .u64) (IntKind.wrap .u64 (a*((2:Int) ^ (@Min.min Nat instMinNat (Int.toNat (8:Int)) (IntKind.bits .u64))))))||| (BitVec.ofInt (IntKind.bits .u64) (IntKind.wrap .u64 x)))):Nat):Int)
theorem Ub{i:Nat}(h:i<1000000):IntKind.wrap .i64 ((i:Int)+1)=((i+1:Nat):Int):=by rw[wrap_i64 (by omega) (by omega)];omega
def gj(c:V8 Int):Option Int:=if oG c=1∧kg (kg 0 c.a2) c.a3=65000 then some (IntKind.wrap .u32 (kg (kg (kg (kg 0 c.a4) c.a5) c.a6) c.a7))else none
theorem Rg{c:V8 Int}(h:oG c≠1):gj c=none:=by unfold gj;rw[if_neg (fun q=>h q.1)]
end Go.L
