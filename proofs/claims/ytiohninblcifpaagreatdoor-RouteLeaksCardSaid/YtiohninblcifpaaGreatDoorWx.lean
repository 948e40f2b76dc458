/- Put together out of parts: What the functions compute, each told by a guide that the kernel checks against the program. No conditions. -/
import Derived.Test.YtiohninblcifpaaGreatDoorWb
import Derived.Test.YtiohninblcifpaaGreatDoorWs
import Derived.Test.YtiohninblcifpaaGreatDoorAd
section
namespace Go.L
open Go.AM
set_option maxRecDepth 100000
set_option linter.unusedVariables false
set_option linter.unusedSimpArgs false
noncomputable def xb(x1:af):G prog (Sh.El (.one Bool)):=
 .skip 6<|.br 6 (decide (x1.Len≥0)) (.skip 5<|.done [] (decide (x1.Len≤32))) (.skip 5<|.done [] false)
noncomputable def nR:aK prog:=aK.of cfg 10 71 (af) (fun x=>[.agg (k9 x)]) (.one Bool) (fun r=>.ret (sb r)) (fun x=>xb x) (fun x=>by kernel_rfl)
noncomputable def yI(x1:Int):G prog (Sh.El (.one Int)):=
 .skip 3<|.op (DV .u32 .i64 (1:Int) (IntKind.wrap .i64 (32 - x1))) fun _=>.skip 3<|.done [] (IntKind.wrap .u32 (((@BitVec.toNat (IntKind.bits .u32) ((BitVec.ofInt (IntKind.bits .u32) (@ite Int ((IntKind.signed .u32)=true) (instDecidableEqBool (IntKind.signed .u32) true) (-(1:Int)) (IntKind.max .u32))) ^^^ (BitVec.ofInt (IntKind.bits .u32) (IntKind.wrap .u32 ((IntKind.wrap .u32 ((1:Int)*((2:Int) ^ (@Min.min Nat instMinNat (Int.toNat (IntKind.wrap .i64 (32 - x1))) (IntKind.bits .u32))))) - 1))))):Nat):Int))
noncomputable def rN:aK prog:=aK.of cfg 10 122 (Int) (fun x=>[si x]) (.one Int) (fun r=>.ret (su r)) (fun x=>yI x) (fun x=>by kernel_rfl)
noncomputable def tZ(x1:af)(x2:Int):G prog (Sh.El (.one Bool)):=
 .skip 3<|.call nR x1 fun(r3:Bool)=>.skip 1<|.br 7 r3 (.skip 4<|.call rN x1.Len fun(r4:Int)=>.skip 4<|.call rN x1.Len fun(r5:Int)=>.skip 4<|.done [] ((IntKind.wrap .u32 (((@BitVec.toNat (IntKind.bits .u32) ((BitVec.ofInt (IntKind.bits .u32) x1.IP)&&& (BitVec.ofInt (IntKind.bits .u32) r4))):Nat):Int))==(IntKind.wrap .u32 (((@BitVec.toNat (IntKind.bits .u32) ((BitVec.ofInt (IntKind.bits .u32) x2)&&& (BitVec.ofInt (IntKind.bits .u32) r5))):Nat):Int)))) (.skip 14<|.done [] false)
noncomputable def nJ:aK prog:=aK.of cfg 10 72 (af×Int) (fun x=>[.agg (k9 x.1),su x.2]) (.one Bool) (fun r=>.ret (sb r)) (fun x=>tZ x.1 x.2) (fun x=>by kernel_rfl)
end Go.L
end
section
namespace Go.L
open Go.AM
set_option maxRecDepth 100000
set_option linter.unusedVariables false
set_option linter.unusedSimpArgs false
noncomputable def ug(x1:(List cz)):G prog (Sh.El (.one Bool)):=
 .skip 2<|.op (bI x1 cN) fun _=>.skip 1<|.br 6 (decide ((x1.length:Int)>60)) (.skip 2<|.done [] true) (.skip 2<|.loop (.two (.one Unit) (.one Unit)) [.keep [0,3]] (fun(a:Int)=>⟨(ap [(.ax (List.map cN x1)),.aq,.aq,si a] (jl 37)),[],[]⟩)
  (Sum.elim (fun(_:Unit)=>(.ret,⟨(ap [.aq,.aq,(sb true)] (jl 38)),[],[]⟩)) (fun(_:Unit)=>(.exit 0,⟨(jl 41),[],[]⟩))) (0:Int)
  (fun(a3:Int)=>.skip 2<|.op (bI x1 cN) fun _=>.skip 1<|.br 10 (decide (a3<(x1.length:Int))) (.skip 3<|.op (cc x1 cN 38 a3) fun x4=>.skip 3<|.op (bI x4.A.Path (eI .u32)) fun _=>.skip 2<|.br 21 (decide ((x4.A.Path.length:Int)>20)) (.skip 21<|.done [.keep [2]] (.inr (.inl ()))) (.skip 2<|.op (cc x1 cN 38 a3) fun x6=>.skip 3<|.op (bI x6.A.qh (eI .u32)) fun _=>.skip 3<|.br 31 (decide ((x6.A.qh.length:Int)>20)) (.skip 11<|.done [.keep [2]] (.inr (.inl ()))) (.skip 2<|.op (cc x1 cN 38 a3) fun x8=>.skip 3<|.op (bI x8.A.dW (um (cI .u8))) fun _=>.skip 2<|.br 40 (decide ((x8.A.dW.length:Int)>20)) (.skip 2<|.done [.keep [2]] (.inr (.inl ()))) (.skip 4<|.done [.keep [0,3]] (.inl (IntKind.wrap .i64 (a3+1))))))) (.skip 1<|.done [.keep []] (.inr (.inr ()))))
  (Sum.elim (fun _=>.done [] true) (fun _=>.skip 1<|.done [] false)))
noncomputable def yW:aK prog:=aK.of qS 10 12 ((List cz)) (fun x=>[.ax (x.map cN)]) (.one Bool) (fun r=>.ret (sb r)) (fun x=>ug x) (fun x=>by kernel_rfl)
noncomputable def xh(x1:(List aB))(x2:aB):G prog (Sh.El (.one Bool)):=
 .skip 3<|.loop (.two (.one Unit) (.one Unit)) [.keep [0,3,5]] (fun(a:Int)=>⟨(ap [(.ax (List.map bB x1)),.aq,.aq,(.ptr 0 0 0 0),.aq,si a] (jl 12)),[.row 0 8 [bB x2]],[]⟩)
  (Sum.elim (fun(_:Unit)=>(.ret,⟨(ap (jl 4) (ap [(sb true)] (jl 13))),[.row 0 8 [bB x2]],[]⟩)) (fun(_:Unit)=>(.exit 0,⟨(jl 18),[.row 0 8 [bB x2]],[]⟩))) (0:Int)
  (fun(a3:Int)=>.skip 2<|.op (bI x1 bB) fun _=>.skip 1<|.br 9 (decide (a3<(x1.length:Int))) (.skip 3<|.op (cc x1 bB 8 a3) fun x4=>.skip 3<|.br 17 ((x4.av==x2.av)&&((x4.af.IP==x2.af.IP)&&((x4.af.Len==x2.af.Len)&&((x4.BD==x2.BD)&&((x4.Next==x2.Next)&&((x4.dz==x2.dz)&&((x4.bV==x2.bV)&&((x4.cF==x2.cF)&&true)))))))) (.skip 2<|.done [.keep [4]] (.inr (.inl ()))) (.skip 4<|.done [.keep [0,3,5]] (.inl (IntKind.wrap .i64 (a3+1))))) (.skip 1<|.done [.keep []] (.inr (.inr ()))))
  (Sum.elim (fun _=>.done [] true) (fun _=>.skip 1<|.done [] false))
noncomputable def tR:aK prog:=aK.of qS 10 24 ((List aB)×aB) (fun x=>[.ax (x.1.map bB),.agg (bB x.2)]) (.one Bool) (fun r=>.ret (sb r)) (fun x=>xh x.1 x.2) (fun x=>by kernel_rfl)
noncomputable def vT(x1:af)(x2:af):G prog (Sh.El (.one Bool)):=
 .skip 4<|.call nR x1 fun(r3:Bool)=>.skip 1<|.br 7 r3 (.skip 1<|.call nR x2 fun(r4:Bool)=>.skip 2<|.br 11 r4 (.skip 7<|.br 18 (decide (x1.Len≤x2.Len)) (.skip 3<|.call nJ (x1,x2.IP) fun(r5:Bool)=>.skip 2<|.done [] r5) (.skip 6<|.done [] false)) (.skip 13<|.done [] false)) (.skip 17<|.done [] false)
noncomputable def vU:aK prog:=aK.of qS 10 25 (af×af) (fun x=>[.agg (k9 x.1),.agg (k9 x.2)]) (.one Bool) (fun r=>.ret (sb r)) (fun x=>vT x.1 x.2) (fun x=>by kernel_rfl)
end Go.L
end
