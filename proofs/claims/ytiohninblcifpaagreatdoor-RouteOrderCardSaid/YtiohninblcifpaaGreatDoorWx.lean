/- Put together out of parts: What the functions compute, each told by a guide that the kernel checks against the program. No conditions. -/
import Derived.Test.YtiohninblcifpaaGreatDoorWb
import Derived.Test.YtiohninblcifpaaGreatDoorWs
import Derived.Test.YtiohninblcifpaaGreatDoorAd
set_option linter.unusedSimpArgs false
set_option linter.unusedVariables false
set_option maxRecDepth 100000
section
namespace Go.L
noncomputable section
open Go.AM
end
end Go.L
end
section
namespace Go.L
noncomputable section
open Go.AM
def uH(x1:(List aK)):G prog (Sh.El (.one Bool)):=
 .skip 2<|.op (bG x1 aL) fun _=>.skip 1<|.br 6 (decide ((x1.length:Int)>60)) (.skip 2<|.done [] true) (.skip 2<|.loop (.two (.one Unit) (.one Unit)) [.keep [0,3]] (fun(a:Int)=>⟨(ap [(.av (List.map aL x1)),.aq,.aq,si a] (jl 37)),[],[]⟩)
  (Sum.elim (fun(_:Unit)=>(.ret,⟨(ap [.aq,.aq,(sb true)] (jl 38)),[],[]⟩)) (fun(_:Unit)=>(.exit 0,⟨(jl 41),[],[]⟩))) (0:Int)
  (fun(a3:Int)=>.skip 2<|.op (bG x1 aL) fun _=>.skip 1<|.br 10 (decide (a3<(x1.length:Int))) (.skip 3<|.op (cB x1 aL 38 a3) fun x4=>.skip 3<|.op (bG x4.A.Path (eI .u32)) fun _=>.skip 2<|.br 21 (decide ((x4.A.Path.length:Int)>20)) (.skip 21<|.done [.keep [2]] (.inr (.inl ()))) (.skip 2<|.op (cB x1 aL 38 a3) fun x6=>.skip 3<|.op (bG x6.A.nL (eI .u32)) fun _=>.skip 3<|.br 31 (decide ((x6.A.nL.length:Int)>20)) (.skip 11<|.done [.keep [2]] (.inr (.inl ()))) (.skip 2<|.op (cB x1 aL 38 a3) fun x8=>.skip 3<|.op (bG x8.A.dy (rC (cI .u8))) fun _=>.skip 2<|.br 40 (decide ((x8.A.dy.length:Int)>20)) (.skip 2<|.done [.keep [2]] (.inr (.inl ()))) (.skip 4<|.done [.keep [0,3]] (.inl (IntKind.wrap .i64 (a3+1))))))) (.skip 1<|.done [.keep []] (.inr (.inr ()))))
  (Sum.elim (fun _=>.done [] true) (fun _=>.skip 1<|.done [] false)))
def zG:aI prog:=aI.of kE 10 12 ((List aK)) (fun x=>[.av (x.map aL)]) (.one Bool) (fun r=>.ret (sb r)) (fun x=>uH x) (fun x=>by kernel_rfl)
def Ce(x1:Int)(x2:Int):G prog (Sh.El (.one Int)):=
 .skip 3<|.op (BL .i64 x1 x2) fun _=>.skip 3<|.br 9 (decide ((Int.tmod x1 x2)<0)) (.skip 7<|.done [] (IntKind.wrap .i64 ((Int.tmod x1 x2)+x2))) (.skip 3<|.done [] (Int.tmod x1 x2))
def Gp:aI prog:=aI.of kE 10 15 (Int×Int) (fun x=>[si x.1,si x.2]) (.one Int) (fun r=>.ret (si r)) (fun x=>Ce x.1 x.2) (fun x=>by kernel_rfl)
end
end Go.L
end
section
namespace Go.L
noncomputable section
open Go.AM
def AJ(x1:eE):G prog (Sh.El (.one eE)):=
 .skip 10<|.br 8 (x1.Kind==2) (.skip 11<|.br 17 (x1.Kind==5) (.skip 5<|.done [] (eE.mk x1.Kind x1.RD (@cA.mk Int (0:Int) (0:Int) (0:Int) (0:Int) (0:Int) (0:Int) (0:Int) (0:Int) (0:Int) (0:Int)) x1.Tag x1.bO x1.IP x1.dG x1.ah (0:Int) (0:Int) (0:Int))) (.skip 3<|.done [] (eE.mk x1.Kind x1.RD (@cA.mk Int (0:Int) (0:Int) (0:Int) (0:Int) (0:Int) (0:Int) (0:Int) (0:Int) (0:Int) (0:Int)) x1.Tag x1.bO x1.IP x1.dG x1.ah x1.aS (0:Int) (0:Int)))) (.skip 4<|.br 12 (x1.Kind==5) (.skip 7<|.br 17 (x1.Kind==5) (.skip 5<|.done [] (eE.mk x1.Kind x1.RD (@cA.mk Int (0:Int) (0:Int) (0:Int) (0:Int) (0:Int) (0:Int) (0:Int) (0:Int) (0:Int) (0:Int)) x1.Tag x1.bO x1.IP x1.dG x1.ah (0:Int) (0:Int) (0:Int))) .fail) (.skip 4<|.br 17 (x1.Kind==5) .fail (.skip 3<|.done [] (eE.mk x1.Kind x1.RD x1.aA x1.Tag x1.bO x1.IP x1.dG x1.ah x1.aS (0:Int) (0:Int)))))
def AK:aI prog:=aI.of kE 10 105 (eE) (fun x=>[.agg (xg x)]) (.one eE) (fun r=>.ret (.agg (xg r))) (fun x=>AJ x) (fun x=>by kernel_rfl)
def vM(x1:Int)(x2:Int):G prog (Sh.El (.one Int)):=
 .skip 5<|.br 5 (decide (x1<x2)) (.skip 2<|.done [] (-(1:Int))) (.skip 5<|.br 9 (decide (x1>x2)) (.skip 2<|.done [] (1:Int)) (.skip 2<|.done [] (0:Int)))
def jk:aI prog:=aI.of kE 10 106 (Int×Int) (fun x=>[sq x.1,sq x.2]) (.one Int) (fun r=>.ret (si r)) (fun x=>vM x.1 x.2) (fun x=>by kernel_rfl)
def vN(x1:Int)(x2:Int):G prog (Sh.El (.one Int)):=
 .skip 5<|.br 5 (decide (x1<x2)) (.skip 2<|.done [] (-(1:Int))) (.skip 5<|.br 9 (decide (x1>x2)) (.skip 2<|.done [] (1:Int)) (.skip 2<|.done [] (0:Int)))
def ey:aI prog:=aI.of kE 10 64 (Int×Int) (fun x=>[si x.1,si x.2]) (.one Int) (fun r=>.ret (si r)) (fun x=>vN x.1 x.2) (fun x=>by kernel_rfl)
def sI(x1:(cA Int))(x2:(cA Int)):G prog (Sh.El (.one Int)):=
 .skip 4<|.gH 300<|.skip 11<|.call ey ((IntKind.wrap .i64 x1.a0),(IntKind.wrap .i64 x2.a0)) fun(r3:Int)=>.skip 3<|.br 21 (r3 != 0) (.skip 3<|.done [] r3) (.skip 15<|.call ey ((IntKind.wrap .i64 x1.a1),(IntKind.wrap .i64 x2.a1)) fun(r5:Int)=>.skip 3<|.br 21 (r5 != 0) (.skip 3<|.done [] r5) (.skip 15<|.call ey ((IntKind.wrap .i64 x1.a2),(IntKind.wrap .i64 x2.a2)) fun(r7:Int)=>.skip 3<|.br 21 (r7 != 0) (.skip 3<|.done [] r7) (.skip 15<|.call ey ((IntKind.wrap .i64 x1.a3),(IntKind.wrap .i64 x2.a3)) fun(r9:Int)=>.skip 3<|.br 21 (r9 != 0) (.skip 3<|.done [] r9) (.skip 15<|.call ey ((IntKind.wrap .i64 x1.a4),(IntKind.wrap .i64 x2.a4)) fun(r11:Int)=>.skip 3<|.br 21 (r11 != 0) (.skip 3<|.done [] r11) (.skip 15<|.call ey ((IntKind.wrap .i64 x1.a5),(IntKind.wrap .i64 x2.a5)) fun(r13:Int)=>.skip 3<|.br 21 (r13 != 0) (.skip 3<|.done [] r13) (.skip 15<|.call ey ((IntKind.wrap .i64 x1.a6),(IntKind.wrap .i64 x2.a6)) fun(r15:Int)=>.skip 3<|.br 21 (r15 != 0) (.skip 3<|.done [] r15) (.skip 15<|.call ey ((IntKind.wrap .i64 x1.a7),(IntKind.wrap .i64 x2.a7)) fun(r17:Int)=>.skip 3<|.br 21 (r17 != 0) (.skip 3<|.done [] r17) (.skip 15<|.call ey ((IntKind.wrap .i64 x1.a8),(IntKind.wrap .i64 x2.a8)) fun(r19:Int)=>.skip 3<|.br 21 (r19 != 0) (.skip 3<|.done [] r19) (.skip 15<|.call ey ((IntKind.wrap .i64 x1.a9),(IntKind.wrap .i64 x2.a9)) fun(r21:Int)=>.skip 3<|.br 21 (r21 != 0) (.skip 3<|.done [] r21) (.skip 8<|.done [] (0:Int)))))))))))
def xN:aI prog:=aI.of kE 10 107 ((cA Int)×(cA Int)) (fun x=>[.agg ((xS (cI .u8)) x.1),.agg ((xS (cI .u8)) x.2)]) (.one Int) (fun r=>.ret (si r)) (fun x=>sI x.1 x.2) (fun x=>by kernel_rfl)
def wO(x1:Bool):G prog (Sh.El (.one Int)):=
 .skip 2<|.br 3 x1 (.skip 2<|.done [] (1:Int)) (.skip 2<|.done [] (0:Int))
def wP:aI prog:=aI.of kE 10 108 (Bool) (fun x=>[sb x]) (.one Int) (fun r=>.ret (sq r)) (fun x=>wO x) (fun x=>by kernel_rfl)
def qd(x1:ah)(x2:ah):G prog (Sh.El (.one Int)):=
 .skip 9<|.call ey ((IntKind.wrap .i64 x1.IP),(IntKind.wrap .i64 x2.IP)) fun(r3:Int)=>.skip 3<|.br 14 (r3==0) (.skip 5<|.call ey (x1.Len,x2.Len) fun(r4:Int)=>.skip 1<|.done [] r4) (.skip 3<|.done [] r3)
def qe:aI prog:=aI.of kE 10 18 (ah×ah) (fun x=>[.agg (nD x.1),.agg (nD x.2)]) (.one Int) (fun r=>.ret (si r)) (fun x=>qd x.1 x.2) (fun x=>by kernel_rfl)
def vO(x1:eE)(x2:eE):G prog (Sh.El (.one Int)):=
 .skip 4<|.call AK x1 fun(r3:eE)=>.skip 1<|.call AK x2 fun(r4:eE)=>.skip 8<|.br 10 (decide (r3.Kind<r4.Kind)) (.skip 2<|.done [] (-(1:Int))) (.skip 7<|.br 16 (decide (r3.Kind>r4.Kind)) (.skip 2<|.done [] (1:Int)) (.skip 5<|.call jk (r3.RD,r4.RD) fun(r7:Int)=>.skip 3<|.br 28 (r7==0) (.skip 5<|.call xN (r3.aA,r4.aA) fun(r8:Int)=>.skip 3<|.br 35 (r8==0) (.skip 7<|.call jk ((IntKind.wrap .u64 r3.Tag),(IntKind.wrap .u64 r4.Tag)) fun(r9:Int)=>.skip 3<|.br 44 (r9==0) (.skip 5<|.call jk (r3.bO,r4.bO) fun(r10:Int)=>.skip 3<|.br 51 (r10==0) (.skip 3<|.call wP r3.dG fun(r11:Int)=>.skip 2<|.call wP r4.dG fun(r12:Int)=>.call jk (r11,r12) fun(r13:Int)=>.skip 3<|.br 60 (r13==0) (.skip 7<|.call jk ((IntKind.wrap .u64 r3.IP),(IntKind.wrap .u64 r4.IP)) fun(r14:Int)=>.skip 3<|.br 69 (r14==0) (.skip 5<|.call qe (r3.ah,r4.ah) fun(r15:Int)=>.skip 3<|.br 76 (r15==0) (.skip 7<|.call jk ((IntKind.wrap .u64 r3.aS),(IntKind.wrap .u64 r4.aS)) fun(r16:Int)=>.skip 3<|.done [] r16) (.skip 3<|.done [] r15)) (.skip 3<|.br 76 (r14==0) .fail (.skip 3<|.done [] r14))) (.skip 3<|.br 69 (r13==0) .fail (.skip 3<|.br 76 (r13==0) .fail (.skip 3<|.done [] r13)))) (.skip 3<|.br 60 (r10==0) .fail (.skip 3<|.br 69 (r10==0) .fail (.skip 3<|.br 76 (r10==0) .fail (.skip 3<|.done [] r10))))) (.skip 3<|.br 51 (r9==0) .fail (.skip 3<|.br 60 (r9==0) .fail (.skip 3<|.br 69 (r9==0) .fail (.skip 3<|.br 76 (r9==0) .fail (.skip 3<|.done [] r9)))))) (.skip 3<|.br 44 (r8==0) .fail (.skip 3<|.br 51 (r8==0) .fail (.skip 3<|.br 60 (r8==0) .fail (.skip 3<|.br 69 (r8==0) .fail (.skip 3<|.br 76 (r8==0) .fail (.skip 3<|.done [] r8))))))) (.skip 3<|.br 35 (r7==0) .fail (.skip 3<|.br 44 (r7==0) .fail (.skip 3<|.br 51 (r7==0) .fail (.skip 3<|.br 60 (r7==0) .fail (.skip 3<|.br 69 (r7==0) .fail (.skip 3<|.br 76 (r7==0) .fail (.skip 3<|.done [] r7)))))))))
def Af:aI prog:=aI.of kE 10 52 (eE×eE) (fun x=>[.agg (xg x.1),.agg (xg x.2)]) (.one Int) (fun r=>.ret (si r)) (fun x=>vO x.1 x.2) (fun x=>by kernel_rfl)
def uJ(x1:(List Int)):G prog (Sh.El (.one (List Int))):=
 .skip 3<|.op (pQ 0 [] x1 (eI .u32) 1 4 0 0 1 []) fun _=>.skip 1<|.done [.gG (eR (.s 2) 0 1 1 (List.length ([]++x1)) ([]++x1) (eI .u32) fun _=>rfl)] ([]++x1)
def zJ:aI prog:=aI.of kE 10 159 ((List Int)) (fun x=>[.av (x.map (eI .u32))]) (.one (List Int)) (fun r=>.ret (.av (r.map (eI .u32)))) (fun x=>uJ x) (fun x=>by kernel_rfl)
def zK(x1:(List Int)):G prog (Sh.El (.one (List Int))):=
 .skip 3<|.op (pQ 0 [] x1 (eI .u32) 1 4 0 0 1 []) fun _=>.skip 1<|.done [.gG (eR (.s 2) 0 1 1 (List.length ([]++x1)) ([]++x1) (eI .u32) fun _=>rfl)] ([]++x1)
def Dq:aI prog:=aI.of kE 10 160 ((List Int)) (fun x=>[.av (x.map (eI .u32))]) (.one (List Int)) (fun r=>.ret (.av (r.map (eI .u32)))) (fun x=>zK x) (fun x=>by kernel_rfl)
def wQ(x1:(List (V8 Int))):G prog (Sh.El (.one (List (V8 Int)))):=
 .skip 3<|.op (pQ 0 [] x1 (rC (cI .u8)) 8 8 0 0 1 []) fun _=>.skip 1<|.done [.gG (eR (.s 2) 0 1 8 (List.length ([]++x1)) ([]++x1) (rC (cI .u8)) fun _=>rfl)] ([]++x1)
def Bk:aI prog:=aI.of kE 10 161 ((List (V8 Int))) (fun x=>[.av (x.map (rC (cI .u8)))]) (.one (List (V8 Int))) (fun r=>.ret (.av (r.map (rC (cI .u8))))) (fun x=>wQ x) (fun x=>by kernel_rfl)
def wR(x1:xh):G prog (Sh.El (.one xh)):=
 .skip 4<|.call zJ x1.Path fun(r2:(List Int))=>.skip 2<|.call Dq x1.nL fun(r3:(List Int))=>.skip 2<|.call Bk x1.dy fun(r4:(List (V8 Int)))=>.skip 8<|.done [] (xh.mk x1.Origin r2 x1.Next x1.FN x1.NQ x1.DO x1.JA x1.uq x1.vt r3 r4 x1.nK)
def Bl:aI prog:=aI.of kE 10 109 (xh) (fun x=>[.agg (JB x)]) (.one xh) (fun r=>.ret (.agg (JB r))) (fun x=>wR x) (fun x=>by kernel_rfl)
def wS(x1:aK):G prog (Sh.El (.one aK)):=
 .skip 4<|.call Bl x1.A fun(r2:xh)=>.skip 4<|.done [] (aK.mk x1.N r2 x1.Mi x1.Mj)
def Bm:aI prog:=aI.of kE 10 53 (aK) (fun x=>[.agg (aL x)]) (.one aK) (fun r=>.ret (.agg (aL r))) (fun x=>wS x) (fun x=>by kernel_rfl)
end
end Go.L
end
