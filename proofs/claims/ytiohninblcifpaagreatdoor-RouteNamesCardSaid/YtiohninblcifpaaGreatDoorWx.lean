/- Parts put together. No conditions. -/
import Derived.Test.YtiohninblcifpaaGreatDoorWb
import Derived.Test.YtiohninblcifpaaGreatDoorWs
import Derived.Test.YtiohninblcifpaaGreatDoorAd
set_option linter.unusedSimpArgs false
set_option linter.unusedVariables false
set_option maxRecDepth 100000
section
namespace Go.L
noncomputable section
open Go.AM
def DJ(x1:ah):G prog (Sh.El (.one Bool)):=
 .skip 6<|.br 6 (decide (x1.Len≥0)) (.skip 5<|.done [] (decide (x1.Len≤32))) (.skip 5<|.done [] false)
def xI:aA prog:=aA.of cfg 10 71 (ah) (fun x=>[.agg (eH x)]) (.one Bool) (fun r=>.ret (sb r)) (fun x=>DJ x) (fun x=>by kernel_rfl)
def E4(x1:Int):G prog (Sh.El (.one Int)):=
 .skip 3<|.op (G6 .u32 .i64 (1:Int) (IntKind.wrap .i64 (32 - x1))) fun _=>.skip 3<|.done [] (IntKind.wrap .u32 (((@BitVec.toNat (IntKind.bits .u32) ((BitVec.ofInt (IntKind.bits .u32) (@ite Int ((IntKind.signed .u32)=true) (instDecidableEqBool (IntKind.signed .u32) true) (-(1:Int)) (IntKind.max .u32))) ^^^ (BitVec.ofInt (IntKind.bits .u32) (IntKind.wrap .u32 ((IntKind.wrap .u32 ((1:Int)*((2:Int) ^ (@Min.min Nat instMinNat (Int.toNat (IntKind.wrap .i64 (32 - x1))) (IntKind.bits .u32))))) - 1))))):Nat):Int))
def uJ:aA prog:=aA.of cfg 10 122 (Int) (fun x=>[si x]) (.one Int) (fun r=>.ret (su r)) (fun x=>E4 x) (fun x=>by kernel_rfl)
def AP(x1:ah)(x2:Int):G prog (Sh.El (.one Bool)):=
 .skip 3<|.call xI x1 fun(r3:Bool)=>.skip 1<|.br 7 r3 (.skip 4<|.call uJ x1.Len fun(r4:Int)=>.skip 4<|.call uJ x1.Len fun(r5:Int)=>.skip 4<|.done [] ((IntKind.wrap .u32 (((@BitVec.toNat (IntKind.bits .u32) ((BitVec.ofInt (IntKind.bits .u32) x1.IP)&&& (BitVec.ofInt (IntKind.bits .u32) r4))):Nat):Int))==(IntKind.wrap .u32 (((@BitVec.toNat (IntKind.bits .u32) ((BitVec.ofInt (IntKind.bits .u32) x2)&&& (BitVec.ofInt (IntKind.bits .u32) r5))):Nat):Int)))) (.skip 14<|.done [] false)
def lD:aA prog:=aA.of cfg 10 72 (ah×Int) (fun x=>[.agg (eH x.1),su x.2]) (.one Bool) (fun r=>.ret (sb r)) (fun x=>AP x.1 x.2) (fun x=>by kernel_rfl)
end
end Go.L
end
section
namespace Go.L
noncomputable section
open Go.AM
end
end Go.L
end
