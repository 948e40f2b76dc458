/- What the functions compute, each told by a guide that the kernel checks against the program. No conditions. -/
import Derived.Test.YtpgpmlaafigpaaaGreatDoorTyG
import Derived.KernelRfl
import Derived.Test.YtpgpmlaafigpaaaGreatDoorProg
namespace Go.L
open Go.AM
def cfg:dL:={val:=fun f=> ![113,114,115,116,117,118,119,126,196,197,198,102,103,104,105,187,188,189,270,106,190,272,273,274,275,276,277,278,279,362,363,364,365,366,136,137,138,139,215,213,290,214,291,373,374,375,376,377,378,379,380,77,78,168,166,249,167,250,323,324,325,326,327,328,330,331,392,393,394,162,246,315,316,317,318,319,320,321,322,389,390,391].contains f,kill:=fun _ _=>[]}
noncomputable abbrev prog:=Go.Proofs.Tryz.prog
set_option maxRecDepth 100000
set_option linter.unusedVariables false
set_option linter.unusedSimpArgs false
instance plainProg:Plain prog:=⟨by kernel_rfl,fun f fn h=>by
 have hall : prog.funcs.toList.all (fun fn => fn.name != "runtime.NumGoroutine") = true := by kernel_rfl
 have hm:fn∈prog.funcs.toList:=by simpa using Array.mem_of_getElem? h
 have:=List.all_eq_true.1 hall fn hm;simpa using this⟩
noncomputable def nL(x1:Go.L.Prefix):G prog (Sh.El (.one Bool)):=
 .skip 6<|.br 6 (decide (x1.Len≥(0:Int))) (.skip 5<|.done [] (decide (x1.Len≤(32:Int)))) (.skip 5<|.done [] false)
noncomputable def iK:aA prog:=aA.of cfg 10 165 (Go.L.Prefix) (fun x=>[.agg (dN x)]) (.one Bool) (fun r=>.ret (.sc (.bool r))) (fun x=>nL x) (fun x=>by kernel_rfl)
noncomputable def o7(x1:Int):G prog (Sh.El (.one Int)):=
 .skip 3<|.op (Eu .u32 .i64 (4294967295:Int) (Go.IntKind.wrap .i64 ((32:Int) - x1))) fun _=>.skip 1<|.done [] (Go.IntKind.wrap .u32 ((4294967295:Int)*((2:Int) ^ (@Min.min Nat instMinNat (Int.toNat (Go.IntKind.wrap .i64 ((32:Int) - x1))) (Go.IntKind.bits .u32)))))
noncomputable def lQ:aA prog:=aA.of cfg 10 182 (Int) (fun x=>[.sc (.int .i64 x)]) (.one Int) (fun r=>.ret (.sc (.int .u32 r))) (fun x=>o7 x) (fun x=>by kernel_rfl)
noncomputable def kC(x1:Go.L.Prefix)(x2:Int):G prog (Sh.El (.one Bool)):=
 .skip 3<|.call iK x1 fun(r3:Bool)=>.skip 1<|.br 7 r3 (.skip 6<|.call lQ x1.Len fun(r4:Int)=>.skip 4<|.done [] ((Go.IntKind.wrap .u32 (((@BitVec.toNat (Go.IntKind.bits .u32) ((BitVec.ofInt (Go.IntKind.bits .u32) (Go.IntKind.wrap .u32 (((@BitVec.toNat (Go.IntKind.bits .u32) ((BitVec.ofInt (Go.IntKind.bits .u32) x1.IP) ^^^ (BitVec.ofInt (Go.IntKind.bits .u32) x2))):Nat):Int)))&&& (BitVec.ofInt (Go.IntKind.bits .u32) r4))):Nat):Int))==(0:Int))) (.skip 11<|.done [] false)
noncomputable def fN:aA prog:=aA.of cfg 10 98 (Go.L.Prefix×Int) (fun x=>[.agg (dN x.1),.sc (.int .u32 x.2)]) (.one Bool) (fun r=>.ret (.sc (.bool r))) (fun x=>kC x.1 x.2) (fun x=>by kernel_rfl)
noncomputable def fV(x1:(List Int))(x2:Int):G prog (Sh.El (.one Int)):=
 .skip 2<|.op (aM x1 (Go.AM.eI .i64)) fun _=>.skip 1<|.loop (.two (.one Int) (.one Unit)) [.keep [0,1,7,8]] (fun(a:Int)=>⟨[(.aj (List.map (Go.AM.eI .i64) x1)),(.sc (.int .i64 x2))]++List.replicate 5 .af++[(.sc (.int .i64 (((List.length x1):Nat):Int))),.sc (.int .i64 a)]++List.replicate 10 .af,[],[]⟩)
  (Sum.elim (fun(t:Int)=>(.ret,⟨List.replicate 4 .af++[.sc (.int .i64 t)]++List.replicate 14 .af,[],[]⟩)) (fun(_:Unit)=>(.exit 0,⟨List.replicate 19 .af,[],[]⟩))) (0:Int)
  (fun(a3:Int)=>.skip 1<|.br 9 (decide (a3<(((List.length x1):Nat):Int))) (.skip 6<|.op (aV x1 (Go.AM.eI .i64) 1 a3) fun x4=>.skip 2<|.br 16 (x2==x4) (.skip 3<|.done [.keep [4]] (.inr (.inl a3))) (.skip 3<|.done [.keep [0,1,7,8]] (.inl (Go.IntKind.wrap .i64 (a3+(1:Int)))))) (.skip 1<|.done [.keep []] (.inr (.inr ()))))
  (Sum.elim (fun(t8:Int)=>.done [] t8) (fun _=>.skip 1<|.done [] (-(1:Int))))
noncomputable def gZ:aA prog:=aA.of cfg 10 210 ((List Int)×Int) (fun x=>[.aj (x.1.map (eI .i64)),.sc (.int .i64 x.2)]) (.one Int) (fun r=>.ret (.sc (.int .i64 r))) (fun x=>fV x.1 x.2) (fun x=>by kernel_rfl)
noncomputable def ey(x1:(List Int))(x2:Int):G prog (Sh.El (.one Bool)):=
 .skip 3<|.call gZ (x1,x2) fun(r3:Int)=>.skip 2<|.done [] (decide (r3≥(0:Int)))
noncomputable def cM:aA prog:=aA.of cfg 10 135 ((List Int)×Int) (fun x=>[.aj (x.1.map (eI .i64)),.sc (.int .i64 x.2)]) (.one Bool) (fun r=>.ret (.sc (.bool r))) (fun x=>ey x.1 x.2) (fun x=>by kernel_rfl)
end Go.L
