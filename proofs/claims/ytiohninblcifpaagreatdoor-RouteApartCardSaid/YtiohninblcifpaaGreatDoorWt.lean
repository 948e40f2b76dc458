/- Parts put together. No conditions. -/
import Derived.Test.YtiohninblcifpaaGreatDoorWs
import Derived.Test.YtiohninblcifpaaGreatDoorAe
import Derived.Test.YtiohninblcifpaaGreatDoorAd
set_option linter.unusedSimpArgs false
set_option linter.unusedVariables false
set_option maxRecDepth 100000
section
namespace Go.Proofs
open Go.Shelf
def Tryz.DD:Shelf.Ren where
 f:=fun x=>match x with
  | 43=>177
  |n=>n
 t:=fun x=>match x with
  | 22=>50
  | 23=>43
  | 3=>3
  | 4=>4
  | 0=>0
  |n=>n
 g:=fun n=>n
theorem Tryz.QO:SlLaysE.n43 Tryz.prog Tryz.DD where
 mixed:=by kernel_rfl
 f43 := ⟨"slices.Compact[[]uint32,uint32]", of_decide_eq_true (by kernel_rfl), Eq.trans Tryz.func177 (by kernel_rfl)⟩
 t0:=Tryz.underlying0
 a0:=Tryz.isAgg0
 z0:=Tryz.sizeOf0
 v0:=Tryz.zeroValue0
 t3:=Tryz.underlying3
 a3:=Tryz.isAgg3
 z3:=Tryz.sizeOf3
 v3:=Tryz.zeroValue3
 t4:=Tryz.underlying4
 a4:=Tryz.isAgg4
 z4:=Tryz.sizeOf4
 v4:=Tryz.zeroValue4
 t22:=Tryz.underlying50
 a22:=Tryz.isAgg50
 z22:=Tryz.sizeOf50
 v22:=Tryz.zeroValue50
 a23:=Tryz.isAgg43
 z23:=Tryz.sizeOf43
end Go.Proofs
namespace Go.L
open Go.AM Go.Proofs Go.Shelf
theorem Kn(l:List Int):bO prog 177 [.sl 0 0 1 0 l.length] [.row 0 1 (l.map (eI .u32))] (.ret (.sl 0 0 1 0 (Lib.compact l).length)) [.row 0 1 ((Lib.compact l).map (eI .u32))]:=
 Lx (P:=prog) (ρ:=Tryz.DD) Tryz.QO (Value.int .u32) (fun _=>rfl) (EqlAt.intD _ _ .u32) (NeqAt.intD _ _ .u32) 0 Tryz.zeroValue43 (fun _=>rfl) ⟨Tryz.f177,_,Tryz.func177,rfl,by decide⟩ l
def zN(x:List Int×Nat):Option (List Int):=if x.2=x.1.length then some (Lib.compact x.1)else none
theorem LA(x:List Int×Nat)(r:List Int)(h:zN x=some r):bO prog 177 [.sl 0 0 1 0 x.2] [.row 0 1 (x.1.map (eI .u32))] (.ret (.sl 0 0 1 0 r.length)) [.row 0 1 (r.map (eI .u32))]:=by
 unfold zN at h;split at h
 ·rename_i hc;cases h;rw[hc];exact Kn x.1
 ·cases h
noncomputable def hU:dF prog:={f:=177,X:=List Int×Nat,args:=fun x=>[.sl 0 0 1 0 x.2],blk:=fun x=>.row 0 1 (x.1.map (eI .u32)),sh:=.one (List Int),out:=fun(r:List Int)=>.ret (.sl 0 0 1 0 r.length),qN:=fun _ (r:List Int)=>.row 0 1 (r.map (eI .u32)),S:=fun _ x=>zN x,a0:=fun _=>rfl,b0:=fun x=>by simp[af.lX,eI,AVal.aS,AVal.pure],b1:=fun _ (r:List Int)=>.inl (by simp[af.lX,eI,AVal.aS,AVal.pure]),r0:=fun _=>rfl,ok:=fun _ x r h=>LA x r h}
end Go.L
end
section
namespace Go.L
noncomputable section
open Go.AM
def tR(x1:(V8 Int)):G prog (Sh.El (.one Int)):=
 .skip 4<|.gu 300<|.skip 11<|.br 14 ((0==x1.a0)&&((2==x1.a1)&&true)) (.skip 4<|.done [] (1:Int)) (.skip 14<|.br 14 ((3==x1.a0)&&((12==x1.a1)&&true)) (.skip 4<|.done [] (2:Int)) (.skip 14<|.br 14 ((6==x1.a0)&&((0==x1.a1)&&true)) (.skip 4<|.done [] (3:Int)) (.skip 14<|.br 14 ((6==x1.a0)&&((1==x1.a1)&&true)) (.skip 4<|.done [] (4:Int)) (.skip 14<|.br 14 ((6==x1.a0)&&((2==x1.a1)&&true)) (.skip 4<|.done [] (5:Int)) (.skip 14<|.br 14 ((6==x1.a0)&&((3==x1.a1)&&true)) (.skip 4<|.done [] (6:Int)) (.skip 14<|.br 14 ((6==x1.a0)&&((6==x1.a1)&&true)) (.skip 4<|.done [] (7:Int)) (.skip 6<|.done [] (0:Int))))))))
def ov:aD prog:=aD.of fU 10 174 ((V8 Int)) (fun x=>[.agg ((lD (cI .u8)) x)]) (.one Int) (fun r=>.ret (si r)) (fun x=>tR x) (fun x=>by kernel_rfl)
def wO(x1:(List (V8 Int))):G prog (Sh.El (.one (List Int))):=
 .skip 3<|.op (bE x1 (lD (cI .u8))) fun _=>.skip 1<|.loop (.one (List Int)) [.keep [3,6,7,8],.cut [] [] [],.own (.s 3) 1] (fun(a:(Int×List Int))=>⟨(ap [.aq,.aq,.aq,.sl 0 0 1 0 a.2.length,.aq,.aq,(.aB (List.map (lD (cI .u8)) x1)),(si (x1.length:Int)),si a.1] (jl 22)),[.row 0 1 (a.2.map (eI .u32))],[]⟩)
  (fun(t:(List Int))=>(.exit 0,⟨(ap [.aq,.aq,.aq,.sl 0 0 1 0 t.length] (jl 27)),[.row 0 1 (t.map (eI .u32))],[]⟩)) ((0:Int),[])
  (fun(a16:(Int×List Int))=>.skip 1<|.br 9 (decide (a16.1<(x1.length:Int))) (.skip 1<|.op (bu x1 (lD (cI .u8)) 8 a16.1) fun x17=>.skip 4<|.call ov x17 fun(r18:Int)=>.skip 2<|.br 15 (r18==1) (.skip 1<|.inl []<|.skip 10<|.gu 300<|.skip 30<|.tidy [.keep [6],.cut [] [] []]<|.inl []<|.skip 2<|.br 19 ((IntKind.wrap .u64 (((@BitVec.toNat (IntKind.bits .u64) ((BitVec.ofInt (IntKind.bits .u64) (IntKind.wrap .u64 ((IntKind.wrap .u64 (((@BitVec.toNat (IntKind.bits .u64) ((BitVec.ofInt (IntKind.bits .u64) (IntKind.wrap .u64 ((0:Int)*((2:Int) ^ (@Min.min Nat instMinNat (Int.toNat 8) (IntKind.bits .u64))))))||| (BitVec.ofInt (IntKind.bits .u64) (IntKind.wrap .u64 x17.a2)))):Nat):Int))*((2:Int) ^ (@Min.min Nat instMinNat (Int.toNat 8) (IntKind.bits .u64))))))||| (BitVec.ofInt (IntKind.bits .u64) (IntKind.wrap .u64 x17.a3)))):Nat):Int))==65000) (.skip 3<|.inl []<|.skip 10<|.gu 300<|.skip 56<|.tidy [.keep [6],.cut [] [] []]<|.inl []<|.skip 2<|.op (wE (List.length a16.2) a16.2 [(IntKind.wrap .u32 (IntKind.wrap .u64 (((@BitVec.toNat (IntKind.bits .u64) ((BitVec.ofInt (IntKind.bits .u64) (IntKind.wrap .u64 ((IntKind.wrap .u64 (((@BitVec.toNat (IntKind.bits .u64) ((BitVec.ofInt (IntKind.bits .u64) (IntKind.wrap .u64 ((IntKind.wrap .u64 (((@BitVec.toNat (IntKind.bits .u64) ((BitVec.ofInt (IntKind.bits .u64) (IntKind.wrap .u64 ((IntKind.wrap .u64 (((@BitVec.toNat (IntKind.bits .u64) ((BitVec.ofInt (IntKind.bits .u64) (IntKind.wrap .u64 ((0:Int)*((2:Int) ^ (@Min.min Nat instMinNat (Int.toNat 8) (IntKind.bits .u64))))))||| (BitVec.ofInt (IntKind.bits .u64) (IntKind.wrap .u64 x17.a4)))):Nat):Int))*((2:Int) ^ (@Min.min Nat instMinNat (Int.toNat 8) (IntKind.bits .u64))))))||| (BitVec.ofInt (IntKind.bits .u64) (IntKind.wrap .u64 x17.a5)))):Nat):Int))*((2:Int) ^ (@Min.min Nat instMinNat (Int.toNat 8) (IntKind.bits .u64))))))||| (BitVec.ofInt (IntKind.bits .u64) (IntKind.wrap .u64 x17.a6)))):Nat):Int))*((2:Int) ^ (@Min.min Nat instMinNat (Int.toNat 8) (IntKind.bits .u64))))))||| (BitVec.ofInt (IntKind.bits .u64) (IntKind.wrap .u64 x17.a7)))):Nat):Int)))] (eI .u32) 1 4 0 0 3 [2]) fun _=>.skip 3<|.done [.keep [3,6,7,8],.cut [0] [] [dR 0 1 1 (a16.2++[(IntKind.wrap .u32 (IntKind.wrap .u64 (((@BitVec.toNat (IntKind.bits .u64) ((BitVec.ofInt (IntKind.bits .u64) (IntKind.wrap .u64 ((IntKind.wrap .u64 (((@BitVec.toNat (IntKind.bits .u64) ((BitVec.ofInt (IntKind.bits .u64) (IntKind.wrap .u64 ((IntKind.wrap .u64 (((@BitVec.toNat (IntKind.bits .u64) ((BitVec.ofInt (IntKind.bits .u64) (IntKind.wrap .u64 ((IntKind.wrap .u64 (((@BitVec.toNat (IntKind.bits .u64) ((BitVec.ofInt (IntKind.bits .u64) (IntKind.wrap .u64 ((0:Int)*((2:Int) ^ (@Min.min Nat instMinNat (Int.toNat 8) (IntKind.bits .u64))))))||| (BitVec.ofInt (IntKind.bits .u64) (IntKind.wrap .u64 x17.a4)))):Nat):Int))*((2:Int) ^ (@Min.min Nat instMinNat (Int.toNat 8) (IntKind.bits .u64))))))||| (BitVec.ofInt (IntKind.bits .u64) (IntKind.wrap .u64 x17.a5)))):Nat):Int))*((2:Int) ^ (@Min.min Nat instMinNat (Int.toNat 8) (IntKind.bits .u64))))))||| (BitVec.ofInt (IntKind.bits .u64) (IntKind.wrap .u64 x17.a6)))):Nat):Int))*((2:Int) ^ (@Min.min Nat instMinNat (Int.toNat 8) (IntKind.bits .u64))))))||| (BitVec.ofInt (IntKind.bits .u64) (IntKind.wrap .u64 x17.a7)))):Nat):Int)))]) (eI .u32) fun _=>rfl]] (.inl ((IntKind.wrap .i64 (a16.1+1)),(a16.2++[(IntKind.wrap .u32 (IntKind.wrap .u64 (((@BitVec.toNat (IntKind.bits .u64) ((BitVec.ofInt (IntKind.bits .u64) (IntKind.wrap .u64 ((IntKind.wrap .u64 (((@BitVec.toNat (IntKind.bits .u64) ((BitVec.ofInt (IntKind.bits .u64) (IntKind.wrap .u64 ((IntKind.wrap .u64 (((@BitVec.toNat (IntKind.bits .u64) ((BitVec.ofInt (IntKind.bits .u64) (IntKind.wrap .u64 ((IntKind.wrap .u64 (((@BitVec.toNat (IntKind.bits .u64) ((BitVec.ofInt (IntKind.bits .u64) (IntKind.wrap .u64 ((0:Int)*((2:Int) ^ (@Min.min Nat instMinNat (Int.toNat 8) (IntKind.bits .u64))))))||| (BitVec.ofInt (IntKind.bits .u64) (IntKind.wrap .u64 x17.a4)))):Nat):Int))*((2:Int) ^ (@Min.min Nat instMinNat (Int.toNat 8) (IntKind.bits .u64))))))||| (BitVec.ofInt (IntKind.bits .u64) (IntKind.wrap .u64 x17.a5)))):Nat):Int))*((2:Int) ^ (@Min.min Nat instMinNat (Int.toNat 8) (IntKind.bits .u64))))))||| (BitVec.ofInt (IntKind.bits .u64) (IntKind.wrap .u64 x17.a6)))):Nat):Int))*((2:Int) ^ (@Min.min Nat instMinNat (Int.toNat 8) (IntKind.bits .u64))))))||| (BitVec.ofInt (IntKind.bits .u64) (IntKind.wrap .u64 x17.a7)))):Nat):Int)))])))) (.skip 3<|.done [.keep [3,6,7,8],.cut [0] [] [dR 0 0 1 a16.2 (eI .u32) fun _=>rfl]] (.inl ((IntKind.wrap .i64 (a16.1+1)),a16.2)))) (.skip 7<|.done [.keep [3,6,7,8],.cut [0] [] [dR 0 0 1 a16.2 (eI .u32) fun _=>rfl]] (.inl ((IntKind.wrap .i64 (a16.1+1)),a16.2)))) (.skip 1<|.done [.keep [3],.cut [0] [] [dR 0 0 1 a16.2 (eI .u32) fun _=>rfl]] (.inr a16.2)))
  (fun(t23:(List Int))=>.skip 1<|.bw gI 0 0 [] (t23,(List.length t23)) fun(r24:(List Int))=>.skip 1<|.bw hU 0 0 [] (r24,(List.length t23)) fun(r25:(List Int))=>.skip 1<|.done [.iL (k6 (.s 2) 0 0 1 (List.length r25) r25 (eI .u32) fun _=>rfl)] r25)
def dB:aD prog:=aD.of fU 10 115 ((List (V8 Int))) (fun x=>[.aB (x.map (lD (cI .u8)))]) (.one (List Int)) (fun r=>.ret (.aB (r.map (eI .u32)))) (fun x=>wO x) (fun x=>by kernel_rfl)
def tS(x1:(V8 Int)):G prog (Sh.El (.one Int)):=
 .skip 3<|.inl []<|.skip 10<|.gu 300<|.skip 82<|.tidy [.keep [6],.cut [] [] []]<|.inl []<|.skip 1<|.done [] (IntKind.wrap .u64 (((@BitVec.toNat (IntKind.bits .u64) ((BitVec.ofInt (IntKind.bits .u64) (IntKind.wrap .u64 ((IntKind.wrap .u64 (((@BitVec.toNat (IntKind.bits .u64) ((BitVec.ofInt (IntKind.bits .u64) (IntKind.wrap .u64 ((IntKind.wrap .u64 (((@BitVec.toNat (IntKind.bits .u64) ((BitVec.ofInt (IntKind.bits .u64) (IntKind.wrap .u64 ((IntKind.wrap .u64 (((@BitVec.toNat (IntKind.bits .u64) ((BitVec.ofInt (IntKind.bits .u64) (IntKind.wrap .u64 ((IntKind.wrap .u64 (((@BitVec.toNat (IntKind.bits .u64) ((BitVec.ofInt (IntKind.bits .u64) (IntKind.wrap .u64 ((IntKind.wrap .u64 (((@BitVec.toNat (IntKind.bits .u64) ((BitVec.ofInt (IntKind.bits .u64) (IntKind.wrap .u64 ((0:Int)*((2:Int) ^ (@Min.min Nat instMinNat (Int.toNat 8) (IntKind.bits .u64))))))||| (BitVec.ofInt (IntKind.bits .u64) (IntKind.wrap .u64 x1.a2)))):Nat):Int))*((2:Int) ^ (@Min.min Nat instMinNat (Int.toNat 8) (IntKind.bits .u64))))))||| (BitVec.ofInt (IntKind.bits .u64) (IntKind.wrap .u64 x1.a3)))):Nat):Int))*((2:Int) ^ (@Min.min Nat instMinNat (Int.toNat 8) (IntKind.bits .u64))))))||| (BitVec.ofInt (IntKind.bits .u64) (IntKind.wrap .u64 x1.a4)))):Nat):Int))*((2:Int) ^ (@Min.min Nat instMinNat (Int.toNat 8) (IntKind.bits .u64))))))||| (BitVec.ofInt (IntKind.bits .u64) (IntKind.wrap .u64 x1.a5)))):Nat):Int))*((2:Int) ^ (@Min.min Nat instMinNat (Int.toNat 8) (IntKind.bits .u64))))))||| (BitVec.ofInt (IntKind.bits .u64) (IntKind.wrap .u64 x1.a6)))):Nat):Int))*((2:Int) ^ (@Min.min Nat instMinNat (Int.toNat 8) (IntKind.bits .u64))))))||| (BitVec.ofInt (IntKind.bits .u64) (IntKind.wrap .u64 x1.a7)))):Nat):Int))
def A9:aD prog:=aD.of fU 10 245 ((V8 Int)) (fun x=>[.agg ((lD (cI .u8)) x)]) (.one Int) (fun r=>.ret (sq r)) (fun x=>tS x) (fun x=>by kernel_rfl)
def nS(x1:(List (V8 Int))):G prog (Sh.El (.one (Int×Bool))):=
 .skip 3<|.inl []<|.skip 3<|.op (bE x1 (lD (cI .u8))) fun _=>.skip 1<|.loop (.two (.one Int) (.one Unit)) [.keep [1,2,11,12,13],.cut [] [] []] (fun(a:Int)=>⟨(ap [.aq,(si 6),(.fn (.func 245) [] [])] (ap (jl 8) (ap [(.aB (List.map (lD (cI .u8)) x1)),(si (x1.length:Int)),si a] (jl 12)))),[],[]⟩)
  (Sum.elim (fun(t:Int)=>(.ret,⟨(ap (jl 6) (ap [sq t,(sb true)] (jl 18))),[],[]⟩)) (fun(_:Unit)=>(.exit 0,⟨(jl 26),[],[]⟩))) (0:Int)
  (fun(a9:Int)=>.skip 1<|.br 14 (decide (a9<(x1.length:Int))) (.skip 1<|.op (bu x1 (lD (cI .u8)) 8 a9) fun x10=>.skip 4<|.call ov x10 fun(r11:Int)=>.skip 2<|.br 20 (r11==6) (.skip 3<|.call A9 x10 fun(r12:Int)=>.skip 2<|.done [.keep [6,7],.cut [] [] []] (.inr (.inl r12))) (.skip 3<|.done [.keep [1,2,11,12,13],.cut [] [] []] (.inl (IntKind.wrap .i64 (a9+1))))) (.skip 1<|.done [.keep [],.cut [] [] []] (.inr (.inr ()))))
  (Sum.elim (fun(t16:Int)=>.tidy []<|.inl []<|.skip 4<|.done [] (t16,true)) (fun _=>.skip 4<|.tidy []<|.inl []<|.skip 4<|.done [] ((0:Int),false)))
def dZ:aD prog:=aD.of fU 10 179 ((List (V8 Int))) (fun x=>[.aB (x.map (lD (cI .u8)))]) (.one (Int×Bool)) (fun r=>.ret (.ct [sq r.1,sb r.2])) (fun x=>nS x) (fun x=>by kernel_rfl)
def tu(x1:(List (V8 Int))):G prog (Sh.El (.one (Bool×Int×Bool))):=
 .skip 5<|.inl []<|.skip 3<|.op (bE x1 (lD (cI .u8))) fun _=>.skip 1<|.loop (.two (.one (Bool×Int)) (.one Unit)) [.keep [1,2,11,12,13],.cut [] [] []] (fun(a:Int)=>⟨(ap [.aq,(si 3),(.fn (.func 212) [] [(.ptr 0 0 0 0)])] (ap (jl 8) (ap [(.aB (List.map (lD (cI .u8)) x1)),(si (x1.length:Int)),si a] (jl 12)))),[(.row 0 1 [[(su 0)]])],[]⟩)
  (Sum.elim (fun(t:(Bool×Int))=>(.ret,⟨(ap (jl 6) (ap [sb t.1,(sb true)] (jl 18))),[.row 0 1 [[su t.2]]],[]⟩)) (fun(_:Unit)=>(.exit 0,⟨(jl 26),[(.row 0 1 [[(su 0)]])],[]⟩))) (0:Int)
  (fun(a8:Int)=>.skip 1<|.br 14 (decide (a8<(x1.length:Int))) (.skip 1<|.op (bu x1 (lD (cI .u8)) 8 a8) fun x9=>.skip 4<|.call ov x9 fun(r10:Int)=>.skip 2<|.br 20 (r10==3) (.skip 3<|.inl []<|.skip 3<|.inl []<|.skip 10<|.gu 300<|.skip 56<|.tidy [.keep [6],.cut [] [] []]<|.inl []<|.skip 7<|.tidy [.keep [3],.cut [] [] []]<|.inl []<|.skip 2<|.done [.keep [6,7],.cut [] [] []] (.inr (.inl (((IntKind.wrap .u8 (((@BitVec.toNat (IntKind.bits .u8) ((BitVec.ofInt (IntKind.bits .u8) x9.a2)&&& (BitVec.ofInt (IntKind.bits .u8) (1:Int)))):Nat):Int)) != 0),(IntKind.wrap .u32 (IntKind.wrap .u64 (((@BitVec.toNat (IntKind.bits .u64) ((BitVec.ofInt (IntKind.bits .u64) (IntKind.wrap .u64 ((IntKind.wrap .u64 (((@BitVec.toNat (IntKind.bits .u64) ((BitVec.ofInt (IntKind.bits .u64) (IntKind.wrap .u64 ((IntKind.wrap .u64 (((@BitVec.toNat (IntKind.bits .u64) ((BitVec.ofInt (IntKind.bits .u64) (IntKind.wrap .u64 ((IntKind.wrap .u64 (((@BitVec.toNat (IntKind.bits .u64) ((BitVec.ofInt (IntKind.bits .u64) (IntKind.wrap .u64 ((0:Int)*((2:Int) ^ (@Min.min Nat instMinNat (Int.toNat 8) (IntKind.bits .u64))))))||| (BitVec.ofInt (IntKind.bits .u64) (IntKind.wrap .u64 x9.a4)))):Nat):Int))*((2:Int) ^ (@Min.min Nat instMinNat (Int.toNat 8) (IntKind.bits .u64))))))||| (BitVec.ofInt (IntKind.bits .u64) (IntKind.wrap .u64 x9.a5)))):Nat):Int))*((2:Int) ^ (@Min.min Nat instMinNat (Int.toNat 8) (IntKind.bits .u64))))))||| (BitVec.ofInt (IntKind.bits .u64) (IntKind.wrap .u64 x9.a6)))):Nat):Int))*((2:Int) ^ (@Min.min Nat instMinNat (Int.toNat 8) (IntKind.bits .u64))))))||| (BitVec.ofInt (IntKind.bits .u64) (IntKind.wrap .u64 x9.a7)))):Nat):Int))))))) (.skip 3<|.done [.keep [1,2,11,12,13],.cut [] [] []] (.inl (IntKind.wrap .i64 (a8+1))))) (.skip 1<|.done [.keep [],.cut [] [] []] (.inr (.inr ()))))
  (Sum.elim (fun(t14:(Bool×Int))=>.tidy []<|.inl []<|.skip 11<|.done [] (t14.1,t14.2,true)) (fun _=>.skip 4<|.tidy []<|.inl []<|.skip 11<|.done [] (false,(0:Int),false)))
def dP:aD prog:=aD.of fU 10 153 ((List (V8 Int))) (fun x=>[.aB (x.map (lD (cI .u8)))]) (.one (Bool×Int×Bool)) (fun r=>.ret (.ct [sb r.1,su r.2.1,sb r.2.2])) (fun x=>tu x) (fun x=>by kernel_rfl)
def Hw(x1:Int):G prog (Sh.El (.one Bool)):=
 .skip 5<|.done [] (x1 != x1)
def wP:aD prog:=aD.of fU 10 157 (Int) (fun x=>[su x]) (.one Bool) (fun r=>.ret (sb r)) (fun x=>Hw x) (fun x=>by kernel_rfl)
def uy(x1:Int)(x2:Int):G prog (Sh.El (.one Int)):=
 .skip 2<|.call wP x1 fun(r3:Bool)=>.skip 2<|.call wP x2 fun(r4:Bool)=>.skip 2<|.br 11 r3 (.skip 2<|.br 12 r4 (.skip 2<|.done [] (0:Int)) (.skip 2<|.done [] (-(1:Int)))) (.skip 2<|.br 13 r4 (.skip 2<|.done [] (1:Int)) (.skip 4<|.br 16 (decide (x1<x2)) (.skip 2<|.done [] (-(1:Int))) (.skip 4<|.br 19 (decide (x1>x2)) (.skip 2<|.done [] (1:Int)) (.skip 2<|.done [] (0:Int)))))
def kS:aD prog:=aD.of fU 10 97 (Int×Int) (fun x=>[su x.1,su x.2]) (.one Int) (fun r=>.ret (si r)) (fun x=>uy x.1 x.2) (fun x=>by kernel_rfl)
def Gq(x1:Int):G prog (Sh.El (.one Bool)):=
 .skip 5<|.done [] (x1 != x1)
def vB:aD prog:=aD.of fU 10 121 (Int) (fun x=>[si x]) (.one Bool) (fun r=>.ret (sb r)) (fun x=>Gq x) (fun x=>by kernel_rfl)
def tv(x1:Int)(x2:Int):G prog (Sh.El (.one Int)):=
 .skip 2<|.call vB x1 fun(r3:Bool)=>.skip 2<|.call vB x2 fun(r4:Bool)=>.skip 2<|.br 11 r3 (.skip 2<|.br 12 r4 (.skip 2<|.done [] (0:Int)) (.skip 2<|.done [] (-(1:Int)))) (.skip 2<|.br 13 r4 (.skip 2<|.done [] (1:Int)) (.skip 4<|.br 16 (decide (x1<x2)) (.skip 2<|.done [] (-(1:Int))) (.skip 4<|.br 19 (decide (x1>x2)) (.skip 2<|.done [] (1:Int)) (.skip 2<|.done [] (0:Int)))))
def gV:aD prog:=aD.of fU 10 62 (Int×Int) (fun x=>[si x.1,si x.2]) (.one Int) (fun r=>.ret (si r)) (fun x=>tv x.1 x.2) (fun x=>by kernel_rfl)
def zO(x1:(List Int)):G prog (Sh.El (.one Int)):=
 .skip 3<|.op (bE x1 (eI .i64)) fun _=>.skip 1<|.loop (.two (.one Int) (.one Unit)) [.keep [3,6,7,8]] (fun(a:Int)=>⟨(ap [.aq,.aq,.aq,(si 0),.aq,.aq,(.aB (List.map (eI .i64) x1)),(si (x1.length:Int)),si a] (jl 9)),[],[]⟩)
  (Sum.elim (fun(t:Int)=>(.ret,⟨(ap [.aq,.aq,si t] (jl 15)),[],[]⟩)) (fun(_:Unit)=>(.exit 0,⟨(ap [.aq,.aq,.aq,(si 0)] (jl 14)),[],[]⟩))) (0:Int)
  (fun(a2:Int)=>.skip 1<|.br 9 (decide (a2<(x1.length:Int))) (.skip 1<|.op (bu x1 (eI .i64) 1 a2) fun x3=>.skip 5<|.br 14 (x3 != 0) (.skip 3<|.done [.keep [2]] (.inr (.inl x3))) (.skip 3<|.done [.keep [3,6,7,8]] (.inl (IntKind.wrap .i64 (a2+1))))) (.skip 1<|.done [.keep [3]] (.inr (.inr ()))))
  (Sum.elim (fun(t7:Int)=>.done [] t7) (fun _=>.skip 2<|.done [] (0:Int)))
def rK:aD prog:=aD.of fU 10 61 ((List Int)) (fun x=>[.aB (x.map (eI .i64))]) (.one Int) (fun r=>.ret (si r)) (fun x=>zO x) (fun x=>by kernel_rfl)
def pZ(x1:ah)(x2:ah):G prog (Sh.El (.one Int)):=
 .skip 7<|.call kS (x1.IP,x2.IP) fun(r3:Int)=>.skip 4<|.call gV (x1.Len,x2.Len) fun(r4:Int)=>.skip 1<|.call rK [r3,r4] fun(r5:Int)=>.skip 1<|.done [] r5
def vC:aD prog:=aD.of fU 10 63 (ah×ah) (fun x=>[.agg (gJ x.1),.agg (gJ x.2)]) (.one Int) (fun r=>.ret (si r)) (fun x=>pZ x.1 x.2) (fun x=>by kernel_rfl)
end
end Go.L
end
