/- Parts put together. No conditions. -/
import Derived.Test.YtiohninblcifpaaGreatDoorWs
import Derived.Test.YtiohninblcifpaaGreatDoorAe
import Derived.Test.YtiohninblcifpaaGreatDoorAd
set_option linter.unusedSimpArgs false
set_option linter.unusedVariables false
set_option maxRecDepth 100000
section
namespace Go.Proofs
open Go.Shelf
def Tryz.BP:Shelf.Ren where
 f:=fun x=>match x with
  | 43=>177
  |n=>n
 t:=fun x=>match x with
  | 22=>50
  | 23=>43
  | 3=>3
  | 4=>4
  | 0=>0
  |n=>n
 g:=fun n=>n
theorem Tryz.N8:SlLaysE.n43 Tryz.prog Tryz.BP where
 mixed:=by kernel_rfl
 f43 := ⟨"slices.Compact[[]uint32,uint32]", of_decide_eq_true (by kernel_rfl), Eq.trans Tryz.func177 (by kernel_rfl)⟩
 t0:=Tryz.underlying0
 a0:=Tryz.isAgg0
 z0:=Tryz.sizeOf0
 v0:=Tryz.zeroValue0
 t3:=Tryz.underlying3
 a3:=Tryz.isAgg3
 z3:=Tryz.sizeOf3
 v3:=Tryz.zeroValue3
 t4:=Tryz.underlying4
 a4:=Tryz.isAgg4
 z4:=Tryz.sizeOf4
 v4:=Tryz.zeroValue4
 t22:=Tryz.underlying50
 a22:=Tryz.isAgg50
 z22:=Tryz.sizeOf50
 v22:=Tryz.zeroValue50
 a23:=Tryz.isAgg43
 z23:=Tryz.sizeOf43
end Go.Proofs
namespace Go.L
open Go.AM Go.Proofs Go.Shelf
theorem Is(l:List Int):bF prog 177 [.sl 0 0 1 0 l.length] [.row 0 1 (l.map (eI .u32))] (.ret (.sl 0 0 1 0 (Lib.compact l).length)) [.row 0 1 ((Lib.compact l).map (eI .u32))]:=
 Jt (P:=prog) (ρ:=Tryz.BP) Tryz.N8 (Value.int .u32) (fun _=>rfl) (EqlAt.intD _ _ .u32) (NeqAt.intD _ _ .u32) 0 Tryz.zeroValue43 (fun _=>rfl) ⟨Tryz.f177,_,Tryz.func177,rfl,by decide⟩ l
def xF(x:List Int×Nat):Option (List Int):=if x.2=x.1.length then some (Lib.compact x.1)else none
theorem Jv(x:List Int×Nat)(r:List Int)(h:xF x=some r):bF prog 177 [.sl 0 0 1 0 x.2] [.row 0 1 (x.1.map (eI .u32))] (.ret (.sl 0 0 1 0 r.length)) [.row 0 1 (r.map (eI .u32))]:=by
 unfold xF at h;split at h
 ·rename_i hc;cases h;rw[hc];exact Is x.1
 ·cases h
noncomputable def gm:dm prog:={f:=177,X:=List Int×Nat,args:=fun x=>[.sl 0 0 1 0 x.2],blk:=fun x=>.row 0 1 (x.1.map (eI .u32)),sh:=.one (List Int),out:=fun(r:List Int)=>.ret (.sl 0 0 1 0 r.length),rN:=fun _ (r:List Int)=>.row 0 1 (r.map (eI .u32)),S:=fun _ x=>xF x,a0:=fun _=>rfl,b0:=fun x=>by simp[aa.kO,eI,AVal.aQ,AVal.pure],b1:=fun _ (r:List Int)=>.inl (by simp[aa.kO,eI,AVal.aQ,AVal.pure]),r0:=fun _=>rfl,ok:=fun _ x r h=>Jv x r h}
end Go.L
end
section
namespace Go.L
noncomputable section
open Go.AM
def q7(x1:(V8 Int)):G prog (Sh.El (.one Int)):=
 .skip 4<|.fH 300<|.skip 11<|.br 14 ((0==x1.a0)&&((2==x1.a1)&&true)) (.skip 4<|.done [] (1:Int)) (.skip 14<|.br 14 ((3==x1.a0)&&((12==x1.a1)&&true)) (.skip 4<|.done [] (2:Int)) (.skip 14<|.br 14 ((6==x1.a0)&&((0==x1.a1)&&true)) (.skip 4<|.done [] (3:Int)) (.skip 14<|.br 14 ((6==x1.a0)&&((1==x1.a1)&&true)) (.skip 4<|.done [] (4:Int)) (.skip 14<|.br 14 ((6==x1.a0)&&((2==x1.a1)&&true)) (.skip 4<|.done [] (5:Int)) (.skip 14<|.br 14 ((6==x1.a0)&&((3==x1.a1)&&true)) (.skip 4<|.done [] (6:Int)) (.skip 14<|.br 14 ((6==x1.a0)&&((6==x1.a1)&&true)) (.skip 4<|.done [] (7:Int)) (.skip 6<|.done [] (0:Int))))))))
def mG:aA prog:=aA.of eZ 10 174 ((V8 Int)) (fun x=>[.agg ((ki (cI .u8)) x)]) (.one Int) (fun r=>.ret (si r)) (fun x=>q7 x) (fun x=>by kernel_rfl)
def uM(x1:(List (V8 Int))):G prog (Sh.El (.one (List Int))):=
 .skip 3<|.op (bJ x1 (ki (cI .u8))) fun _=>.skip 1<|.loop (.one (List Int)) [.keep [3,6,7,8],.cut [] [] [],.own (.s 3) 1] (fun(a:(Int×List Int))=>⟨(ap [.av,.av,.av,.sl 0 0 1 0 a.2.length,.av,.av,(.aC (List.map (ki (cI .u8)) x1)),(si (x1.length:Int)),si a.1] (jl 22)),[.row 0 1 (a.2.map (eI .u32))],[]⟩)
  (fun(t:(List Int))=>(.exit 0,⟨(ap [.av,.av,.av,.sl 0 0 1 0 t.length] (jl 27)),[.row 0 1 (t.map (eI .u32))],[]⟩)) ((0:Int),[])
  (fun(a16:(Int×List Int))=>.skip 1<|.br 9 (decide (a16.1<(x1.length:Int))) (.skip 1<|.op (bG x1 (ki (cI .u8)) 8 a16.1) fun x17=>.skip 4<|.call mG x17 fun(r18:Int)=>.skip 2<|.br 15 (r18==1) (.skip 1<|.inl []<|.skip 10<|.fH 300<|.skip 30<|.tidy [.keep [6],.cut [] [] []]<|.inl []<|.skip 2<|.br 19 ((IntKind.wrap .u64 (((@BitVec.toNat (IntKind.bits .u64) ((BitVec.ofInt (IntKind.bits .u64) (IntKind.wrap .u64 ((IntKind.wrap .u64 (((@BitVec.toNat (IntKind.bits .u64) ((BitVec.ofInt (IntKind.bits .u64) (IntKind.wrap .u64 ((0:Int)*((2:Int) ^ (@Min.min Nat instMinNat (Int.toNat 8) (IntKind.bits .u64))))))||| (BitVec.ofInt (IntKind.bits .u64) (IntKind.wrap .u64 x17.a2)))):Nat):Int))*((2:Int) ^ (@Min.min Nat instMinNat (Int.toNat 8) (IntKind.bits .u64))))))||| (BitVec.ofInt (IntKind.bits .u64) (IntKind.wrap .u64 x17.a3)))):Nat):Int))==65000) (.skip 3<|.inl []<|.skip 10<|.fH 300<|.skip 56<|.tidy [.keep [6],.cut [] [] []]<|.inl []<|.skip 2<|.op (oO (List.length a16.2) a16.2 [(IntKind.wrap .u32 (IntKind.wrap .u64 (((@BitVec.toNat (IntKind.bits .u64) ((BitVec.ofInt (IntKind.bits .u64) (IntKind.wrap .u64 ((IntKind.wrap .u64 (((@BitVec.toNat (IntKind.bits .u64) ((BitVec.ofInt (IntKind.bits .u64) (IntKind.wrap .u64 ((IntKind.wrap .u64 (((@BitVec.toNat (IntKind.bits .u64) ((BitVec.ofInt (IntKind.bits .u64) (IntKind.wrap .u64 ((IntKind.wrap .u64 (((@BitVec.toNat (IntKind.bits .u64) ((BitVec.ofInt (IntKind.bits .u64) (IntKind.wrap .u64 ((0:Int)*((2:Int) ^ (@Min.min Nat instMinNat (Int.toNat 8) (IntKind.bits .u64))))))||| (BitVec.ofInt (IntKind.bits .u64) (IntKind.wrap .u64 x17.a4)))):Nat):Int))*((2:Int) ^ (@Min.min Nat instMinNat (Int.toNat 8) (IntKind.bits .u64))))))||| (BitVec.ofInt (IntKind.bits .u64) (IntKind.wrap .u64 x17.a5)))):Nat):Int))*((2:Int) ^ (@Min.min Nat instMinNat (Int.toNat 8) (IntKind.bits .u64))))))||| (BitVec.ofInt (IntKind.bits .u64) (IntKind.wrap .u64 x17.a6)))):Nat):Int))*((2:Int) ^ (@Min.min Nat instMinNat (Int.toNat 8) (IntKind.bits .u64))))))||| (BitVec.ofInt (IntKind.bits .u64) (IntKind.wrap .u64 x17.a7)))):Nat):Int)))] (eI .u32) 1 4 0 0 3 [2]) fun _=>.skip 3<|.done [.keep [3,6,7,8],.cut [0] [] [aP 0 1 1 (a16.2++[(IntKind.wrap .u32 (IntKind.wrap .u64 (((@BitVec.toNat (IntKind.bits .u64) ((BitVec.ofInt (IntKind.bits .u64) (IntKind.wrap .u64 ((IntKind.wrap .u64 (((@BitVec.toNat (IntKind.bits .u64) ((BitVec.ofInt (IntKind.bits .u64) (IntKind.wrap .u64 ((IntKind.wrap .u64 (((@BitVec.toNat (IntKind.bits .u64) ((BitVec.ofInt (IntKind.bits .u64) (IntKind.wrap .u64 ((IntKind.wrap .u64 (((@BitVec.toNat (IntKind.bits .u64) ((BitVec.ofInt (IntKind.bits .u64) (IntKind.wrap .u64 ((0:Int)*((2:Int) ^ (@Min.min Nat instMinNat (Int.toNat 8) (IntKind.bits .u64))))))||| (BitVec.ofInt (IntKind.bits .u64) (IntKind.wrap .u64 x17.a4)))):Nat):Int))*((2:Int) ^ (@Min.min Nat instMinNat (Int.toNat 8) (IntKind.bits .u64))))))||| (BitVec.ofInt (IntKind.bits .u64) (IntKind.wrap .u64 x17.a5)))):Nat):Int))*((2:Int) ^ (@Min.min Nat instMinNat (Int.toNat 8) (IntKind.bits .u64))))))||| (BitVec.ofInt (IntKind.bits .u64) (IntKind.wrap .u64 x17.a6)))):Nat):Int))*((2:Int) ^ (@Min.min Nat instMinNat (Int.toNat 8) (IntKind.bits .u64))))))||| (BitVec.ofInt (IntKind.bits .u64) (IntKind.wrap .u64 x17.a7)))):Nat):Int)))]) (eI .u32) fun _=>rfl]] (.inl ((IntKind.wrap .i64 (a16.1+1)),(a16.2++[(IntKind.wrap .u32 (IntKind.wrap .u64 (((@BitVec.toNat (IntKind.bits .u64) ((BitVec.ofInt (IntKind.bits .u64) (IntKind.wrap .u64 ((IntKind.wrap .u64 (((@BitVec.toNat (IntKind.bits .u64) ((BitVec.ofInt (IntKind.bits .u64) (IntKind.wrap .u64 ((IntKind.wrap .u64 (((@BitVec.toNat (IntKind.bits .u64) ((BitVec.ofInt (IntKind.bits .u64) (IntKind.wrap .u64 ((IntKind.wrap .u64 (((@BitVec.toNat (IntKind.bits .u64) ((BitVec.ofInt (IntKind.bits .u64) (IntKind.wrap .u64 ((0:Int)*((2:Int) ^ (@Min.min Nat instMinNat (Int.toNat 8) (IntKind.bits .u64))))))||| (BitVec.ofInt (IntKind.bits .u64) (IntKind.wrap .u64 x17.a4)))):Nat):Int))*((2:Int) ^ (@Min.min Nat instMinNat (Int.toNat 8) (IntKind.bits .u64))))))||| (BitVec.ofInt (IntKind.bits .u64) (IntKind.wrap .u64 x17.a5)))):Nat):Int))*((2:Int) ^ (@Min.min Nat instMinNat (Int.toNat 8) (IntKind.bits .u64))))))||| (BitVec.ofInt (IntKind.bits .u64) (IntKind.wrap .u64 x17.a6)))):Nat):Int))*((2:Int) ^ (@Min.min Nat instMinNat (Int.toNat 8) (IntKind.bits .u64))))))||| (BitVec.ofInt (IntKind.bits .u64) (IntKind.wrap .u64 x17.a7)))):Nat):Int)))])))) (.skip 3<|.done [.keep [3,6,7,8],.cut [0] [] [aP 0 0 1 a16.2 (eI .u32) fun _=>rfl]] (.inl ((IntKind.wrap .i64 (a16.1+1)),a16.2)))) (.skip 7<|.done [.keep [3,6,7,8],.cut [0] [] [aP 0 0 1 a16.2 (eI .u32) fun _=>rfl]] (.inl ((IntKind.wrap .i64 (a16.1+1)),a16.2)))) (.skip 1<|.done [.keep [3],.cut [0] [] [aP 0 0 1 a16.2 (eI .u32) fun _=>rfl]] (.inr a16.2)))
  (fun(t23:(List Int))=>.skip 1<|.bk fI 0 0 [] (t23,(List.length t23)) fun(r24:(List Int))=>.skip 1<|.bk gm 0 0 [] (r24,(List.length t23)) fun(r25:(List Int))=>.skip 1<|.done [.fP (ff (.s 2) 0 0 1 (List.length r25) r25 (eI .u32) fun _=>rfl)] r25)
def qo:aA prog:=aA.of eZ 10 115 ((List (V8 Int))) (fun x=>[.aC (x.map (ki (cI .u8)))]) (.one (List Int)) (fun r=>.ret (.aC (r.map (eI .u32)))) (fun x=>uM x) (fun x=>by kernel_rfl)
def kL(x1:(List (V8 Int))):G prog (Sh.El (.one (Bool×Int×Bool))):=
 .skip 5<|.inl []<|.skip 3<|.op (bJ x1 (ki (cI .u8))) fun _=>.skip 1<|.loop (.two (.one (Bool×Int)) (.one Unit)) [.keep [1,2,11,12,13],.cut [] [] []] (fun(a:Int)=>⟨(ap [.av,(si 3),(.fn (.func 212) [] [(.ptr 0 0 0 0)])] (ap (jl 8) (ap [(.aC (List.map (ki (cI .u8)) x1)),(si (x1.length:Int)),si a] (jl 12)))),[(.row 0 1 [[(su 0)]])],[]⟩)
  (Sum.elim (fun(t:(Bool×Int))=>(.ret,⟨(ap (jl 6) (ap [sb t.1,(sb true)] (jl 18))),[.row 0 1 [[su t.2]]],[]⟩)) (fun(_:Unit)=>(.exit 0,⟨(jl 26),[(.row 0 1 [[(su 0)]])],[]⟩))) (0:Int)
  (fun(a8:Int)=>.skip 1<|.br 14 (decide (a8<(x1.length:Int))) (.skip 1<|.op (bG x1 (ki (cI .u8)) 8 a8) fun x9=>.skip 4<|.call mG x9 fun(r10:Int)=>.skip 2<|.br 20 (r10==3) (.skip 3<|.inl []<|.skip 3<|.inl []<|.skip 10<|.fH 300<|.skip 56<|.tidy [.keep [6],.cut [] [] []]<|.inl []<|.skip 7<|.tidy [.keep [3],.cut [] [] []]<|.inl []<|.skip 2<|.done [.keep [6,7],.cut [] [] []] (.inr (.inl (((IntKind.wrap .u8 (((@BitVec.toNat (IntKind.bits .u8) ((BitVec.ofInt (IntKind.bits .u8) x9.a2)&&& (BitVec.ofInt (IntKind.bits .u8) (1:Int)))):Nat):Int)) != 0),(IntKind.wrap .u32 (IntKind.wrap .u64 (((@BitVec.toNat (IntKind.bits .u64) ((BitVec.ofInt (IntKind.bits .u64) (IntKind.wrap .u64 ((IntKind.wrap .u64 (((@BitVec.toNat (IntKind.bits .u64) ((BitVec.ofInt (IntKind.bits .u64) (IntKind.wrap .u64 ((IntKind.wrap .u64 (((@BitVec.toNat (IntKind.bits .u64) ((BitVec.ofInt (IntKind.bits .u64) (IntKind.wrap .u64 ((IntKind.wrap .u64 (((@BitVec.toNat (IntKind.bits .u64) ((BitVec.ofInt (IntKind.bits .u64) (IntKind.wrap .u64 ((0:Int)*((2:Int) ^ (@Min.min Nat instMinNat (Int.toNat 8) (IntKind.bits .u64))))))||| (BitVec.ofInt (IntKind.bits .u64) (IntKind.wrap .u64 x9.a4)))):Nat):Int))*((2:Int) ^ (@Min.min Nat instMinNat (Int.toNat 8) (IntKind.bits .u64))))))||| (BitVec.ofInt (IntKind.bits .u64) (IntKind.wrap .u64 x9.a5)))):Nat):Int))*((2:Int) ^ (@Min.min Nat instMinNat (Int.toNat 8) (IntKind.bits .u64))))))||| (BitVec.ofInt (IntKind.bits .u64) (IntKind.wrap .u64 x9.a6)))):Nat):Int))*((2:Int) ^ (@Min.min Nat instMinNat (Int.toNat 8) (IntKind.bits .u64))))))||| (BitVec.ofInt (IntKind.bits .u64) (IntKind.wrap .u64 x9.a7)))):Nat):Int))))))) (.skip 3<|.done [.keep [1,2,11,12,13],.cut [] [] []] (.inl (IntKind.wrap .i64 (a8+1))))) (.skip 1<|.done [.keep [],.cut [] [] []] (.inr (.inr ()))))
  (Sum.elim (fun(t14:(Bool×Int))=>.tidy []<|.inl []<|.skip 11<|.done [] (t14.1,t14.2,true)) (fun _=>.skip 4<|.tidy []<|.inl []<|.skip 11<|.done [] (false,(0:Int),false)))
def jb:aA prog:=aA.of eZ 10 153 ((List (V8 Int))) (fun x=>[.aC (x.map (ki (cI .u8)))]) (.one (Bool×Int×Bool)) (fun r=>.ret (.bW [sb r.1,su r.2.1,sb r.2.2])) (fun x=>kL x) (fun x=>by kernel_rfl)
def FB(x1:Int):G prog (Sh.El (.one Bool)):=
 .skip 5<|.done [] (x1 != x1)
def nr:aA prog:=aA.of eZ 10 157 (Int) (fun x=>[su x]) (.one Bool) (fun r=>.ret (sb r)) (fun x=>FB x) (fun x=>by kernel_rfl)
def rR(x1:Int)(x2:Int):G prog (Sh.El (.one Int)):=
 .skip 2<|.call nr x1 fun(r3:Bool)=>.skip 2<|.call nr x2 fun(r4:Bool)=>.skip 2<|.br 11 r3 (.skip 2<|.br 12 r4 (.skip 2<|.done [] (0:Int)) (.skip 2<|.done [] (-(1:Int)))) (.skip 2<|.br 13 r4 (.skip 2<|.done [] (1:Int)) (.skip 4<|.br 16 (decide (x1<x2)) (.skip 2<|.done [] (-(1:Int))) (.skip 4<|.br 19 (decide (x1>x2)) (.skip 2<|.done [] (1:Int)) (.skip 2<|.done [] (0:Int)))))
def jH:aA prog:=aA.of eZ 10 97 (Int×Int) (fun x=>[su x.1,su x.2]) (.one Int) (fun r=>.ret (si r)) (fun x=>rR x.1 x.2) (fun x=>by kernel_rfl)
def EB(x1:Int):G prog (Sh.El (.one Bool)):=
 .skip 5<|.done [] (x1 != x1)
def l6:aA prog:=aA.of eZ 10 121 (Int) (fun x=>[si x]) (.one Bool) (fun r=>.ret (sb r)) (fun x=>EB x) (fun x=>by kernel_rfl)
def qG(x1:Int)(x2:Int):G prog (Sh.El (.one Int)):=
 .skip 2<|.call l6 x1 fun(r3:Bool)=>.skip 2<|.call l6 x2 fun(r4:Bool)=>.skip 2<|.br 11 r3 (.skip 2<|.br 12 r4 (.skip 2<|.done [] (0:Int)) (.skip 2<|.done [] (-(1:Int)))) (.skip 2<|.br 13 r4 (.skip 2<|.done [] (1:Int)) (.skip 4<|.br 16 (decide (x1<x2)) (.skip 2<|.done [] (-(1:Int))) (.skip 4<|.br 19 (decide (x1>x2)) (.skip 2<|.done [] (1:Int)) (.skip 2<|.done [] (0:Int)))))
def jc:aA prog:=aA.of eZ 10 62 (Int×Int) (fun x=>[si x.1,si x.2]) (.one Int) (fun r=>.ret (si r)) (fun x=>qG x.1 x.2) (fun x=>by kernel_rfl)
def tJ(x1:(List Int)):G prog (Sh.El (.one Int)):=
 .skip 3<|.op (bJ x1 (eI .i64)) fun _=>.skip 1<|.loop (.two (.one Int) (.one Unit)) [.keep [3,6,7,8]] (fun(a:Int)=>⟨(ap [.av,.av,.av,(si 0),.av,.av,(.aC (List.map (eI .i64) x1)),(si (x1.length:Int)),si a] (jl 9)),[],[]⟩)
  (Sum.elim (fun(t:Int)=>(.ret,⟨(ap [.av,.av,si t] (jl 15)),[],[]⟩)) (fun(_:Unit)=>(.exit 0,⟨(ap [.av,.av,.av,(si 0)] (jl 14)),[],[]⟩))) (0:Int)
  (fun(a2:Int)=>.skip 1<|.br 9 (decide (a2<(x1.length:Int))) (.skip 1<|.op (bG x1 (eI .i64) 1 a2) fun x3=>.skip 5<|.br 14 (x3 != 0) (.skip 3<|.done [.keep [2]] (.inr (.inl x3))) (.skip 3<|.done [.keep [3,6,7,8]] (.inl (IntKind.wrap .i64 (a2+1))))) (.skip 1<|.done [.keep [3]] (.inr (.inr ()))))
  (Sum.elim (fun(t7:Int)=>.done [] t7) (fun _=>.skip 2<|.done [] (0:Int)))
def tK:aA prog:=aA.of eZ 10 61 ((List Int)) (fun x=>[.aC (x.map (eI .i64))]) (.one Int) (fun r=>.ret (si r)) (fun x=>tJ x) (fun x=>by kernel_rfl)
end
end Go.L
end
