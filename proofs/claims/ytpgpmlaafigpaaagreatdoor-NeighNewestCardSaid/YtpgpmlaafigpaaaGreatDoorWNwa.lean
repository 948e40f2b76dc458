/- What the functions compute, each told by a guide that the kernel checks against the program. No conditions. -/
import Derived.Test.YtpgpmlaafigpaaaGreatDoorWNk2
import Derived.Test.YtpgpmlaafigpaaaGreatDoorWKf
import Derived.Test.YtpgpmlaafigpaaaGreatDoorAc
namespace Go.L
open Go.AM
set_option maxRecDepth 100000
set_option linter.unusedVariables false
set_option linter.unusedSimpArgs false
def e_1:Entry:=⟨50,[],(.sc (.bool true))⟩
theorem W6:Hf (Bc prog cfg [] 2000 300) e_1=true:=by kernel_rfl
noncomputable def W7:aA prog:={f:=50,X:=Unit,args:=fun _=>[],sh:=.one Unit,out:=fun _=>.ret ((.sc (.bool true))),S:=fun _ _=>some (),ok:=fun _ _ _ _=>Lj (xN plainProg.mixed plainProg.names zm.nil 2000 300) W6}
noncomputable def uX(x1:Int):G prog (Sh.El (.one (Prod Int Int))):=
 .skip 5<|.br 6 (decide (x1<(0:Int))) (.skip 6<|.done [] ((0:Int),(2:Int))) (.skip 3<|.br 9 (decide (x1≥(32:Int))) (.skip 3<|.done [] ((0:Int),(2:Int))) (.skip 7<|.done [] ((Go.IntKind.wrap .u32 ((Go.IntKind.wrap .u32 ((184483840:Int)+(Go.IntKind.wrap .u32 x1)))+(1:Int))),(0:Int))))
noncomputable def AZ:aA prog:=aA.of cfg 10 59 (Int) (fun x=>[.sc (.int .i64 x)]) (.one (Prod Int Int)) (fun r=>.ret (.cw [.sc (.int .u32 r.1),.sc (.int .i64 r.2)])) (fun x=>uX x) (fun x=>by kernel_rfl)
noncomputable def MC(x1:Int)(x2:Int)(x3:Int):G prog (Sh.El (.one (Go.AM.V8 Int))):=
 .skip 22<|.done [] (@Go.AM.V8.mk Int x1 x2 (Go.IntKind.wrap .u8 (Int.fdiv x3 ((2:Int) ^ (@Min.min Nat instMinNat (Int.toNat (40:Int)) (Go.IntKind.bits .u64))))) (Go.IntKind.wrap .u8 (Int.fdiv x3 ((2:Int) ^ (@Min.min Nat instMinNat (Int.toNat (32:Int)) (Go.IntKind.bits .u64))))) (Go.IntKind.wrap .u8 (Int.fdiv x3 ((2:Int) ^ (@Min.min Nat instMinNat (Int.toNat (24:Int)) (Go.IntKind.bits .u64))))) (Go.IntKind.wrap .u8 (Int.fdiv x3 ((2:Int) ^ (@Min.min Nat instMinNat (Int.toNat (16:Int)) (Go.IntKind.bits .u64))))) (Go.IntKind.wrap .u8 (Int.fdiv x3 ((2:Int) ^ (@Min.min Nat instMinNat (Int.toNat (8:Int)) (Go.IntKind.bits .u64))))) (Go.IntKind.wrap .u8 x3))
noncomputable def E9:aA prog:=aA.of cfg 10 86 (Int×Int×Int) (fun x=>[.sc (.int .u8 x.1),.sc (.int .u8 x.2.1),.sc (.int .u64 x.2.2)]) (.one (Go.AM.V8 Int)) (fun r=>.ret (.agg ((ay (cI .u8)) r))) (fun x=>MC x.1 x.2.1 x.2.2) (fun x=>by kernel_rfl)
noncomputable def Jj(x1:Int)(x2:Int):G prog (Sh.El (.one (Go.AM.V8 Int))):=
 .skip 7<|.call E9 ((0:Int),(2:Int),(Go.IntKind.wrap .u64 ((Go.IntKind.wrap .u64 ((Go.IntKind.wrap .u64 x1)*((2:Int) ^ (@Min.min Nat instMinNat (Int.toNat (32:Int)) (Go.IntKind.bits .u64)))))+(Go.IntKind.wrap .u64 x2)))) fun(r3:(Go.AM.V8 Int))=>.skip 1<|.done [] r3
noncomputable def xK:aA prog:=aA.of cfg 10 21 (Int×Int) (fun x=>[.sc (.int .u16 x.1),.sc (.int .u32 x.2)]) (.one (Go.AM.V8 Int)) (fun r=>.ret (.agg ((ay (cI .u8)) r))) (fun x=>Jj x.1 x.2) (fun x=>by kernel_rfl)
noncomputable def ME(x1:Bool):G prog (Sh.El (.one Int)):=
 .skip 2<|.br 3 x1 (.skip 2<|.done [] (1099511627776:Int)) (.skip 2<|.done [] (0:Int))
noncomputable def MF:aA prog:=aA.of cfg 10 142 (Bool) (fun x=>[.sc (.bool x)]) (.one Int) (fun r=>.ret (.sc (.int .u64 r))) (fun x=>ME x) (fun x=>by kernel_rfl)
noncomputable def GQ(x1:Bool)(x2:Int):G prog (Sh.El (.one (Go.AM.V8 Int))):=
 .skip 2<|.call MF x1 fun(r3:Int)=>.skip 3<|.call E9 ((6:Int),(0:Int),(Go.IntKind.wrap .u64 (r3+(Go.IntKind.wrap .u64 x2)))) fun(r4:(Go.AM.V8 Int))=>.skip 1<|.done [] r4
noncomputable def uY:aA prog:=aA.of cfg 10 60 (Bool×Int) (fun x=>[.sc (.bool x.1),.sc (.int .u32 x.2)]) (.one (Go.AM.V8 Int)) (fun r=>.ret (.agg ((ay (cI .u8)) r))) (fun x=>GQ x.1 x.2) (fun x=>by kernel_rfl)
end Go.L
