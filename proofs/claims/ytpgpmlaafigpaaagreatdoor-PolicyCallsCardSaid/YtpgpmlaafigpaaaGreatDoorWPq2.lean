/- What the functions compute, each told by a guide that the kernel checks against the program. No conditions. -/
import Derived.Test.YtpgpmlaafigpaaaGreatDoorWPy
import Derived.Test.YtpgpmlaafigpaaaGreatDoorWRs2
namespace Go.L
open Go.AM
set_option maxRecDepth 100000
set_option linter.unusedVariables false
set_option linter.unusedSimpArgs false
noncomputable def wm(x1:(List (Go.AM.V8 Int)))(x2:(List (Go.AM.V8 Int))):G prog (Sh.El (.one Bool)):=
 .skip 2<|.op (aM x1 (Go.AM.ay (Go.AM.cI .u8))) fun _=>.skip 1<|.op (aM x2 (Go.AM.ay (Go.AM.cI .u8))) fun _=>.skip 1<|.br 10 ((((List.length x1):Nat):Int) != (((List.length x2):Nat):Int)) (.skip 2<|.done [] false) (.skip 2<|.loop (.two (.one Unit) (.one Unit)) [.keep [0,1,5]] (fun(a:Int)=>⟨(ap [(.aj (List.map (Go.AM.ay (Go.AM.cI .u8)) x1)),(.aj (List.map (Go.AM.ay (Go.AM.cI .u8)) x2)),.af,.af,.af,.sc (.int .i64 a)] (jl 20)),[],[]⟩)
  (Sum.elim (fun(_:Unit)=>(.ret,⟨(ap (jl 4) (ap [(.sc (.bool false))] (jl 21))),[],[]⟩)) (fun(_:Unit)=>(.exit 0,⟨(jl 26),[],[]⟩))) (0:Int)
  (fun(a4:Int)=>.skip 2<|.op (aM x1 (Go.AM.ay (Go.AM.cI .u8))) fun _=>.skip 1<|.br 14 (decide (a4<(((List.length x1):Nat):Int))) (.skip 3<|.op (aV x1 (Go.AM.ay (Go.AM.cI .u8)) 8 a4) fun x5=>.skip 3<|.op (aV x2 (Go.AM.ay (Go.AM.cI .u8)) 8 a4) fun x6=>.skip 2<|.br 25 (!((x5.a0==x6.a0)&&((x5.a1==x6.a1)&&((x5.a2==x6.a2)&&((x5.a3==x6.a3)&&((x5.a4==x6.a4)&&((x5.a5==x6.a5)&&((x5.a6==x6.a6)&&((x5.a7==x6.a7)&&true))))))))) (.skip 2<|.done [.keep [4]] (.inr (.inl ()))) (.skip 4<|.done [.keep [0,1,5]] (.inl (Go.IntKind.wrap .i64 (a4+(1:Int)))))) (.skip 1<|.done [.keep []] (.inr (.inr ()))))
  (Sum.elim (fun _=>.done [] false) (fun _=>.skip 1<|.done [] true)))
noncomputable def Bu:aA prog:=aA.of i7 10 24 ((List (Go.AM.V8 Int))×(List (Go.AM.V8 Int))) (fun x=>[.aj (x.1.map (ay (cI .u8))),.aj (x.2.map (ay (cI .u8)))]) (.one Bool) (fun r=>.ret (.sc (.bool r))) (fun x=>wm x.1 x.2) (fun x=>by kernel_rfl)
noncomputable def xq(x1:(List (Go.AM.V8 Int)))(x2:(Go.AM.V8 Int)):G prog (Sh.El (.one Bool)):=
 .skip 3<|.loop (.two (.one Unit) (.one Unit)) [.keep [0,3,5]] (fun(a:Int)=>⟨(ap [(.aj (List.map (Go.AM.ay (Go.AM.cI .u8)) x1)),.af,.af,(.ptr 0 0 0 0),.af,.sc (.int .i64 a)] (jl 12)),[.row 0 8 [(ay (cI .u8)) x2]],[]⟩)
  (Sum.elim (fun(_:Unit)=>(.ret,⟨(ap (jl 4) (ap [(.sc (.bool true))] (jl 13))),[.row 0 8 [(ay (cI .u8)) x2]],[]⟩)) (fun(_:Unit)=>(.exit 0,⟨(jl 18),[.row 0 8 [(ay (cI .u8)) x2]],[]⟩))) (0:Int)
  (fun(a3:Int)=>.skip 2<|.op (aM x1 (Go.AM.ay (Go.AM.cI .u8))) fun _=>.skip 1<|.br 9 (decide (a3<(((List.length x1):Nat):Int))) (.skip 3<|.op (aV x1 (Go.AM.ay (Go.AM.cI .u8)) 8 a3) fun x4=>.skip 3<|.br 17 ((x4.a0==x2.a0)&&((x4.a1==x2.a1)&&((x4.a2==x2.a2)&&((x4.a3==x2.a3)&&((x4.a4==x2.a4)&&((x4.a5==x2.a5)&&((x4.a6==x2.a6)&&((x4.a7==x2.a7)&&true)))))))) (.skip 2<|.done [.keep [4]] (.inr (.inl ()))) (.skip 4<|.done [.keep [0,3,5]] (.inl (Go.IntKind.wrap .i64 (a3+(1:Int)))))) (.skip 1<|.done [.keep []] (.inr (.inr ()))))
  (Sum.elim (fun _=>.done [] true) (fun _=>.skip 1<|.done [] false))
noncomputable def qg:aA prog:=aA.of i7 10 91 ((List (Go.AM.V8 Int))×(Go.AM.V8 Int)) (fun x=>[.aj (x.1.map (ay (cI .u8))),.agg ((ay (cI .u8)) x.2)]) (.one Bool) (fun r=>.ret (.sc (.bool r))) (fun x=>xq x.1 x.2) (fun x=>by kernel_rfl)
noncomputable def uN(x1:Go.L.cu)(x2:Go.L.aq):G prog (Sh.El (.one Bool)):=
 .skip 8<|.call eR x2.A.aY fun(r3:(List Int))=>.call qE (x1,x2,r3) fun(r4:Bool)=>.skip 1<|.done [] r4
noncomputable def Av:aA prog:=aA.of i7 10 25 (Go.L.cu×Go.L.aq) (fun x=>[.agg (bI x.1),.agg (aG x.2)]) (.one Bool) (fun r=>.ret (.sc (.bool r))) (fun x=>uN x.1 x.2) (fun x=>by kernel_rfl)
noncomputable def uO(x1:(List Int)):G prog (Sh.El (.one (List Int))):=
 .skip 3<|.op (fu 0 [] x1 (eI .u32) 1 4 0 0 1 []) fun _=>.skip 1<|.done [.cN (bh (.s 2) 0 1 1 (List.length ([]++x1)) ([]++x1) (Go.AM.eI .u32) fun _=>rfl)] ([]++x1)
noncomputable def uP:aA prog:=aA.of i7 10 89 ((List Int)) (fun x=>[.aj (x.map (eI .u32))]) (.one (List Int)) (fun r=>.ret (.aj (r.map (eI .u32)))) (fun x=>uO x) (fun x=>by kernel_rfl)
noncomputable def Aw(x1:(List Int)):G prog (Sh.El (.one (List Int))):=
 .skip 3<|.op (fu 0 [] x1 (eI .u32) 1 4 0 0 1 []) fun _=>.skip 1<|.done [.cN (bh (.s 2) 0 1 1 (List.length ([]++x1)) ([]++x1) (Go.AM.eI .u32) fun _=>rfl)] ([]++x1)
noncomputable def ER:aA prog:=aA.of i7 10 178 ((List Int)) (fun x=>[.aj (x.map (eI .u32))]) (.one (List Int)) (fun r=>.ret (.aj (r.map (eI .u32)))) (fun x=>Aw x) (fun x=>by kernel_rfl)
noncomputable def xu(x1:(List (Go.AM.V8 Int))):G prog (Sh.El (.one (List (Go.AM.V8 Int)))):=
 .skip 3<|.op (fu 0 [] x1 (ay (cI .u8)) 8 8 0 0 1 []) fun _=>.skip 1<|.done [.cN (bh (.s 2) 0 1 8 (List.length ([]++x1)) ([]++x1) (Go.AM.ay (Go.AM.cI .u8)) fun _=>rfl)] ([]++x1)
noncomputable def tB:aA prog:=aA.of i7 10 90 ((List (Go.AM.V8 Int))) (fun x=>[.aj (x.map (ay (cI .u8)))]) (.one (List (Go.AM.V8 Int))) (fun r=>.ret (.aj (r.map (ay (cI .u8))))) (fun x=>xu x) (fun x=>by kernel_rfl)
noncomputable def xw(x1:Go.L.bE):G prog (Sh.El (.one Go.L.bE)):=
 .skip 4<|.call uP x1.Path fun(r2:(List Int))=>.skip 2<|.call ER x1.cg fun(r3:(List Int))=>.skip 2<|.call tB x1.aY fun(r4:(List (Go.AM.V8 Int)))=>.skip 8<|.done [] (Go.L.bE.mk x1.Origin r2 x1.Next x1.gw x1.gx x1.fI x1.dR x1.aK x1.aU r3 r4 x1.aC)
noncomputable def CA:aA prog:=aA.of i7 10 87 (Go.L.bE) (fun x=>[.agg (EA x)]) (.one Go.L.bE) (fun r=>.ret (.agg (EA r))) (fun x=>xw x) (fun x=>by kernel_rfl)
noncomputable def xx(x1:Go.L.aq):G prog (Sh.El (.one Go.L.aq)):=
 .skip 4<|.call CA x1.A fun(r2:Go.L.bE)=>.skip 4<|.done [] (Go.L.aq.mk x1.N r2 x1.bS x1.cR)
noncomputable def qh:aA prog:=aA.of i7 10 26 (Go.L.aq) (fun x=>[.agg (aG x)]) (.one Go.L.aq) (fun r=>.ret (.agg (aG r))) (fun x=>xx x) (fun x=>by kernel_rfl)
noncomputable def tR(x1:(List Int))(x2:(List Int)):G prog (Sh.El (.one Bool)):=
 .skip 2<|.op (aM x1 (Go.AM.eI .u32)) fun _=>.skip 1<|.op (aM x2 (Go.AM.eI .u32)) fun _=>.skip 1<|.br 10 ((((List.length x1):Nat):Int) != (((List.length x2):Nat):Int)) (.skip 2<|.done [] false) (.skip 2<|.loop (.two (.one Unit) (.one Unit)) [.keep [0,1,5]] (fun(a:Int)=>⟨(ap [(.aj (List.map (Go.AM.eI .u32) x1)),(.aj (List.map (Go.AM.eI .u32) x2)),.af,.af,.af,.sc (.int .i64 a)] (jl 20)),[],[]⟩)
  (Sum.elim (fun(_:Unit)=>(.ret,⟨(ap (jl 4) (ap [(.sc (.bool false))] (jl 21))),[],[]⟩)) (fun(_:Unit)=>(.exit 0,⟨(jl 26),[],[]⟩))) (0:Int)
  (fun(a4:Int)=>.skip 2<|.op (aM x1 (Go.AM.eI .u32)) fun _=>.skip 1<|.br 14 (decide (a4<(((List.length x1):Nat):Int))) (.skip 3<|.op (aV x1 (Go.AM.eI .u32) 1 a4) fun x5=>.skip 3<|.op (aV x2 (Go.AM.eI .u32) 1 a4) fun x6=>.skip 2<|.br 25 (x5 != x6) (.skip 2<|.done [.keep [4]] (.inr (.inl ()))) (.skip 4<|.done [.keep [0,1,5]] (.inl (Go.IntKind.wrap .i64 (a4+(1:Int)))))) (.skip 1<|.done [.keep []] (.inr (.inr ()))))
  (Sum.elim (fun _=>.done [] false) (fun _=>.skip 1<|.done [] true)))
noncomputable def zg:aA prog:=aA.of i7 10 67 ((List Int)×(List Int)) (fun x=>[.aj (x.1.map (eI .u32)),.aj (x.2.map (eI .u32))]) (.one Bool) (fun r=>.ret (.sc (.bool r))) (fun x=>tR x.1 x.2) (fun x=>by kernel_rfl)
noncomputable def yJ(x1:(List Int))(x2:(List Int)):G prog (Sh.El (.one Bool)):=
 .skip 2<|.op (aM x1 (Go.AM.eI .u32)) fun _=>.skip 1<|.op (aM x2 (Go.AM.eI .u32)) fun _=>.skip 1<|.br 10 ((((List.length x1):Nat):Int) != (((List.length x2):Nat):Int)) (.skip 2<|.done [] false) (.skip 2<|.loop (.two (.one Unit) (.one Unit)) [.keep [0,1,5]] (fun(a:Int)=>⟨(ap [(.aj (List.map (Go.AM.eI .u32) x1)),(.aj (List.map (Go.AM.eI .u32) x2)),.af,.af,.af,.sc (.int .i64 a)] (jl 20)),[],[]⟩)
  (Sum.elim (fun(_:Unit)=>(.ret,⟨(ap (jl 4) (ap [(.sc (.bool false))] (jl 21))),[],[]⟩)) (fun(_:Unit)=>(.exit 0,⟨(jl 26),[],[]⟩))) (0:Int)
  (fun(a4:Int)=>.skip 2<|.op (aM x1 (Go.AM.eI .u32)) fun _=>.skip 1<|.br 14 (decide (a4<(((List.length x1):Nat):Int))) (.skip 3<|.op (aV x1 (Go.AM.eI .u32) 1 a4) fun x5=>.skip 3<|.op (aV x2 (Go.AM.eI .u32) 1 a4) fun x6=>.skip 2<|.br 25 (x5 != x6) (.skip 2<|.done [.keep [4]] (.inr (.inl ()))) (.skip 4<|.done [.keep [0,1,5]] (.inl (Go.IntKind.wrap .i64 (a4+(1:Int)))))) (.skip 1<|.done [.keep []] (.inr (.inr ()))))
  (Sum.elim (fun _=>.done [] false) (fun _=>.skip 1<|.done [] true)))
noncomputable def DQ:aA prog:=aA.of i7 10 180 ((List Int)×(List Int)) (fun x=>[.aj (x.1.map (eI .u32)),.aj (x.2.map (eI .u32))]) (.one Bool) (fun r=>.ret (.sc (.bool r))) (fun x=>yJ x.1 x.2) (fun x=>by kernel_rfl)
noncomputable def wo(x1:Go.L.bE)(x2:Go.L.bE):G prog (Sh.El (.one Bool)):=
 .skip 9<|.br 10 (x1.Origin==x2.Origin) (.skip 4<|.call zg (x1.Path,x2.Path) fun(r3:Bool)=>.skip 2<|.br 17 r3 (.skip 7<|.br 24 (x1.Next==x2.Next) (.skip 7<|.br 31 (x1.gw==x2.gw) (.skip 7<|.br 38 (x1.gx==x2.gx) (.skip 7<|.br 45 (x1.fI==x2.fI) (.skip 7<|.br 52 (x1.dR==x2.dR) (.skip 7<|.br 59 (x1.aK==x2.aK) (.skip 7<|.br 66 (x1.aU==x2.aU) (.skip 4<|.call DQ (x1.cg,x2.cg) fun(r4:Bool)=>.skip 2<|.br 73 r4 (.skip 4<|.call Bu (x1.aY,x2.aY) fun(r5:Bool)=>.skip 2<|.br 80 r5 (.skip 7<|.done [] ((x1.aC.Kind==x2.aC.Kind)&&((x1.aC.Label==x2.aC.Label)&&((x1.aC.l8==x2.aC.l8)&&((x1.aC.je==x2.aC.je)&&true))))) (.skip 7<|.done [] false)) (.skip 14<|.done [] false)) (.skip 21<|.done [] false)) (.skip 28<|.done [] false)) (.skip 35<|.done [] false)) (.skip 42<|.done [] false)) (.skip 49<|.done [] false)) (.skip 56<|.done [] false)) (.skip 63<|.done [] false)) (.skip 70<|.done [] false)) (.skip 77<|.done [] false)
noncomputable def Bv:aA prog:=aA.of i7 10 93 (Go.L.bE×Go.L.bE) (fun x=>[.agg (EA x.1),.agg (EA x.2)]) (.one Bool) (fun r=>.ret (.sc (.bool r))) (fun x=>wo x.1 x.2) (fun x=>by kernel_rfl)
noncomputable def wq(x1:Go.L.aq)(x2:Go.L.aq):G prog (Sh.El (.one Bool)):=
 .skip 9<|.br 10 ((x1.N.Kind==x2.N.Kind)&&((x1.N.RD==x2.N.RD)&&((x1.N.aH.a0==x2.N.aH.a0)&&((x1.N.aH.a1==x2.N.aH.a1)&&((x1.N.aH.a2==x2.N.aH.a2)&&((x1.N.aH.a3==x2.N.aH.a3)&&((x1.N.aH.a4==x2.N.aH.a4)&&((x1.N.aH.a5==x2.N.aH.a5)&&((x1.N.aH.a6==x2.N.aH.a6)&&((x1.N.aH.a7==x2.N.aH.a7)&&((x1.N.aH.a8==x2.N.aH.a8)&&((x1.N.aH.a9==x2.N.aH.a9)&&((x1.N.Tag==x2.N.Tag)&&((x1.N.dM==x2.N.dM)&&((x1.N.IP==x2.N.IP)&&((x1.N.fM==x2.N.fM)&&((x1.N.Prefix.IP==x2.N.Prefix.IP)&&((x1.N.Prefix.Len==x2.N.Prefix.Len)&&((x1.N.bC==x2.N.bC)&&((x1.N.Label==x2.N.Label)&&((x1.N.gP==x2.N.gP)&&true))))))))))))))))))))) (.skip 4<|.call Bv (x1.A,x2.A) fun(r3:Bool)=>.skip 2<|.br 17 r3 (.skip 7<|.br 24 (x1.bS==x2.bS) (.skip 7<|.done [] (x1.cR==x2.cR)) (.skip 7<|.done [] false)) (.skip 14<|.done [] false)) (.skip 21<|.done [] false)
noncomputable def rK:aA prog:=aA.of i7 10 30 (Go.L.aq×Go.L.aq) (fun x=>[.agg (aG x.1),.agg (aG x.2)]) (.one Bool) (fun r=>.ret (.sc (.bool r))) (fun x=>wq x.1 x.2) (fun x=>by kernel_rfl)
end Go.L
