/- Parts put together. No conditions. -/
import Derived.Test.YtdbkafoghoenoaaGreatDoorWl
import Derived.Test.YtdbkafoghoenoaaGreatDoorWs
import Derived.Test.YtdbkafoghoenoaaGreatDoorAd
set_option linter.unusedSimpArgs false
set_option linter.unusedVariables false
set_option maxRecDepth 100000
section
namespace Go.L
noncomputable section
open Go.AM
def cfgR:Cfg:={val:=fun f=> ![39,40,41,42,43,44,45,236,237,227,230,226,231,232,49,50,51,52,53,54,55,56,83,84,85,86,91,93,98,100,101,102,103,106,150,155,162,163,89,90,95,97,99,104,105,57,233,255,259,229,87].contains f,kill:=fun _ _=>[]}
abbrev z8:V8 Int:=⟨0,0,0,0,0,0,0,0⟩
abbrev w1:Int:=IntKind.wrap .i64 (0+1)
abbrev w2:Int:=IntKind.wrap .i64 (w1+1)
abbrev w3:Int:=IntKind.wrap .i64 (w2+1)
abbrev w4:Int:=IntKind.wrap .i64 (w3+1)
abbrev w5:Int:=IntKind.wrap .i64 (w4+1)
abbrev bX(x w k:Int):Int:=IntKind.wrap .u8 (Int.fdiv x ((2:Int) ^ (@Min.min Nat instMinNat (Int.toNat (IntKind.wrap .i64 ((8:Int)*(IntKind.wrap .i64 ((IntKind.wrap .i64 (w - 1)) - k))))) (IntKind.bits .u64))))
abbrev oB(a b:Int):Int:=IntKind.wrap .u64 (((@BitVec.toNat (IntKind.bits .u64) ((BitVec.ofInt (IntKind.bits .u64) (IntKind.wrap .u64 (a*((2:Int) ^ (@Min.min Nat instMinNat (Int.toNat 8) (IntKind.bits .u64))))))||| (BitVec.ofInt (IntKind.bits .u64) (IntKind.wrap .u64 b)))):Nat):Int)
def g_comm_Encap(x1:Int):G prog (Sh.El (.one (V8 Int×Int))):=
 .skip 5<|.br 6 (decide (x1<0)) (.skip 7<|.done [] (z8,(2:Int))) (.skip 3<|.br 9 (decide (x1>65535)) (.skip 4<|.done [] (z8,(2:Int))) (.skip 6<|.inl []<|.skip 4<|.unroll 300<|.skip 94<|.unroll 300<|.skip 9<|.unroll 300<|.skip 102<|.unroll 300<|.skip 55<|.tidy [.keep [4],.cut [2] [] []]<|.inl []<|.skip 2<|.done [] ((@V8.mk Int (3:Int) (12:Int) (bX (0:Int) 4 0) (bX (0:Int) 4 w1) (bX (0:Int) 4 w2) (bX (0:Int) 4 w3) (bX (IntKind.wrap .u64 x1) 2 0) (bX (IntKind.wrap .u64 x1) 2 w1)),(0:Int))))
def c_comm_Encap:Ctr prog:=Ctr.of cfgR 10 153 (Int) (fun x=>[si x]) (.one (V8 Int×Int)) (fun r=>.ret (.tup [.agg ((eV8 (cI .u8)) r.1),si r.2])) (fun x=>g_comm_Encap x) (fun x=>by kernel_rfl)
def g_comm_Target(x1:Int)(x2:Int):G prog (Sh.El (.one (V8 Int))):=
 .skip 8<|.inl []<|.skip 4<|.unroll 300<|.skip 94<|.unroll 300<|.skip 9<|.unroll 300<|.skip 60<|.unroll 300<|.skip 97<|.tidy [.keep [4],.cut [2] [] []]<|.inl []<|.skip 1<|.done [] (@V8.mk Int (0:Int) (2:Int) (bX (IntKind.wrap .u64 x1) 2 0) (bX (IntKind.wrap .u64 x1) 2 w1) (bX (IntKind.wrap .u64 x2) 4 0) (bX (IntKind.wrap .u64 x2) 4 w1) (bX (IntKind.wrap .u64 x2) 4 w2) (bX (IntKind.wrap .u64 x2) 4 w3))
def c_comm_Target:Ctr prog:=Ctr.of cfgR 10 154 (Int×Int) (fun x=>[.sc (.int .u16 x.1),su x.2]) (.one (V8 Int)) (fun r=>.ret (.agg ((eV8 (cI .u8)) r))) (fun x=>g_comm_Target x.1 x.2) (fun x=>by kernel_rfl)
def g_comm_Import(x1:Int):G prog (Sh.El (.one (V8 Int×Int))):=
 .skip 3<|.inl []<|.skip 4<|.br 7 (decide (x1>281474976710655)) (.skip 4<|.tidy [.keep [4,5],.cut [1] [] []]<|.inl []<|.skip 4<|.done [] (z8,(2:Int))) (.skip 5<|.inl []<|.skip 4<|.unroll 300<|.skip 94<|.unroll 300<|.skip 9<|.unroll 300<|.skip 139<|.tidy [.keep [4],.cut [3] [] []]<|.inl []<|.skip 2<|.tidy [.keep [4,5],.cut [1] [] []]<|.inl []<|.skip 4<|.done [] ((@V8.mk Int (6:Int) (2:Int) (bX x1 6 0) (bX x1 6 w1) (bX x1 6 w2) (bX x1 6 w3) (bX x1 6 w4) (bX x1 6 w5)),(0:Int)))
def c_comm_Import:Ctr prog:=Ctr.of cfgR 10 158 (Int) (fun x=>[sq x]) (.one (V8 Int×Int)) (fun r=>.ret (.tup [.agg ((eV8 (cI .u8)) r.1),si r.2])) (fun x=>g_comm_Import x) (fun x=>by kernel_rfl)
def g_comm_Election(x1:Int)(x2:Int):G prog (Sh.El (.one (V8 Int×Int))):=
 .skip 5<|.br 8 (decide (x1<0)) (.skip 15<|.done [] (z8,(2:Int))) (.skip 4<|.br 12 (decide (x1>31)) (.skip 11<|.done [] (z8,(2:Int))) (.skip 4<|.br 16 (decide (x2<0)) (.skip 7<|.done [] (z8,(2:Int))) (.skip 3<|.br 19 (decide (x2>65535)) (.skip 4<|.done [] (z8,(2:Int))) (.skip 9<|.inl []<|.skip 4<|.unroll 300<|.skip 94<|.unroll 300<|.skip 9<|.unroll 300<|.skip 39<|.unroll 300<|.skip 81<|.unroll 300<|.skip 55<|.tidy [.keep [4],.cut [2] [] []]<|.inl []<|.skip 2<|.done [] ((@V8.mk Int (6:Int) (6:Int) (bX (IntKind.wrap .u64 x1) 1 0) (bX (0:Int) 3 0) (bX (0:Int) 3 w1) (bX (0:Int) 3 w2) (bX (IntKind.wrap .u64 x2) 2 0) (bX (IntKind.wrap .u64 x2) 2 w1)),(0:Int))))))
def c_comm_Election:Ctr prog:=Ctr.of cfgR 10 160 (Int×Int) (fun x=>[si x.1,si x.2]) (.one (V8 Int×Int)) (fun r=>.ret (.tup [.agg ((eV8 (cI .u8)) r.1),si r.2])) (fun x=>g_comm_Election x.1 x.2) (fun x=>by kernel_rfl)
def g_comm_flag(x1:Bool):G prog (Sh.El (.one Int)):=
 .skip 2<|.br 3 x1 (.skip 2<|.done [] (1:Int)) (.skip 2<|.done [] (0:Int))
def c_comm_flag:Ctr prog:=Ctr.of cfgR 10 234 (Bool) (fun x=>[sb x]) (.one Int) (fun r=>.ret (sq r)) (fun x=>g_comm_flag x) (fun x=>by kernel_rfl)
def g_comm_Label(x1:Bool)(x2:Int):G prog (Sh.El (.one (V8 Int×Int))):=
 .skip 4<|.br 7 (decide (x2>16777215)) (.skip 4<|.done [] (z8,(2:Int))) (.skip 2<|.call c_comm_flag x1 fun(r4:Int)=>.skip 6<|.inl []<|.skip 4<|.unroll 300<|.skip 94<|.unroll 300<|.skip 9<|.unroll 300<|.skip 39<|.unroll 300<|.skip 60<|.unroll 300<|.skip 76<|.tidy [.keep [4],.cut [2] [] []]<|.inl []<|.skip 2<|.done [] ((@V8.mk Int (6:Int) (1:Int) (bX r4 1 0) (bX (0:Int) 2 0) (bX (0:Int) 2 w1) (bX (IntKind.wrap .u64 x2) 3 0) (bX (IntKind.wrap .u64 x2) 3 w1) (bX (IntKind.wrap .u64 x2) 3 w2)),(0:Int)))
def c_comm_Label:Ctr prog:=Ctr.of cfgR 10 161 (Bool×Int) (fun x=>[sb x.1,su x.2]) (.one (V8 Int×Int)) (fun r=>.ret (.tup [.agg ((eV8 (cI .u8)) r.1),si r.2])) (fun x=>g_comm_Label x.1 x.2) (fun x=>by kernel_rfl)
def g_comm_Mobility(x1:Bool)(x2:Int):G prog (Sh.El (.one (V8 Int))):=
 .skip 2<|.call c_comm_flag x1 fun(r3:Int)=>.skip 6<|.inl []<|.skip 4<|.unroll 300<|.skip 94<|.unroll 300<|.skip 9<|.unroll 300<|.skip 39<|.unroll 300<|.skip 39<|.unroll 300<|.skip 97<|.tidy [.keep [4],.cut [2] [] []]<|.inl []<|.skip 1<|.done [] (@V8.mk Int (6:Int) (0:Int) (bX r3 1 0) (bX (0:Int) 1 0) (bX (IntKind.wrap .u64 x2) 4 0) (bX (IntKind.wrap .u64 x2) 4 w1) (bX (IntKind.wrap .u64 x2) 4 w2) (bX (IntKind.wrap .u64 x2) 4 w3))
def c_comm_Mobility:Ctr prog:=Ctr.of cfgR 10 165 (Bool×Int) (fun x=>[sb x.1,su x.2]) (.one (V8 Int)) (fun r=>.ret (.agg ((eV8 (cI .u8)) r))) (fun x=>g_comm_Mobility x.1 x.2) (fun x=>by kernel_rfl)
def g_comm_Router(x1:Int):G prog (Sh.El (.one (V8 Int×Int))):=
 .skip 3<|.inl []<|.skip 4<|.br 7 (decide (x1>281474976710655)) (.skip 4<|.tidy [.keep [4,5],.cut [1] [] []]<|.inl []<|.skip 4<|.done [] (z8,(2:Int))) (.skip 5<|.inl []<|.skip 4<|.unroll 300<|.skip 94<|.unroll 300<|.skip 9<|.unroll 300<|.skip 139<|.tidy [.keep [4],.cut [3] [] []]<|.inl []<|.skip 2<|.tidy [.keep [4,5],.cut [1] [] []]<|.inl []<|.skip 4<|.done [] ((@V8.mk Int (6:Int) (3:Int) (bX x1 6 0) (bX x1 6 w1) (bX x1 6 w2) (bX x1 6 w3) (bX x1 6 w4) (bX x1 6 w5)),(0:Int)))
def c_comm_Router:Ctr prog:=Ctr.of cfgR 10 166 (Int) (fun x=>[sq x]) (.one (V8 Int×Int)) (fun r=>.ret (.tup [.agg ((eV8 (cI .u8)) r.1),si r.2])) (fun x=>g_comm_Router x) (fun x=>by kernel_rfl)
def g_addr_Import(x1:(V10 Int)):G prog (Sh.El (.one Int)):=
 .skip 4<|.call c_addr_octets x1 fun(r2:(Int×Int×Int×Int×Int×Int×Int×Int×Int×Int))=>.inl []<|.skip 2<|.unroll 300<|.skip 9<|.inl []<|.skip 9<|.tidy []<|.skip 13<|.inl []<|.skip 15<|.tidy []<|.skip 13<|.inl []<|.skip 15<|.tidy []<|.skip 13<|.inl []<|.skip 15<|.tidy []<|.skip 13<|.inl []<|.skip 15<|.tidy []<|.skip 13<|.inl []<|.skip 15<|.tidy []<|.skip 13<|.inl []<|.skip 15<|.tidy []<|.skip 13<|.inl []<|.skip 9<|.tidy []<|.skip 13<|.inl []<|.skip 9<|.tidy []<|.skip 13<|.inl []<|.skip 9<|.tidy []<|.skip 6<|.tidy []<|.inl []<|.skip 2<|.done [] (oB (oB (oB (oB (oB (oB 0 r2.2.1) r2.2.2.1) r2.2.2.2.1) r2.2.2.2.2.1) r2.2.2.2.2.2.1) r2.2.2.2.2.2.2.1)
def c_addr_Import:Ctr prog:=Ctr.of cfgR 10 96 ((V10 Int)) (fun x=>[.agg ((eV10 (cI .u8)) x)]) (.one Int) (fun r=>.ret (sq r)) (fun x=>g_addr_Import x) (fun x=>by kernel_rfl)
def g_addr_Loopback(x1:Int):G prog (Sh.El (.one (Int×Int))):=
 .skip 5<|.br 6 (decide (x1<0)) (.skip 6<|.done [] ((0:Int),(2:Int))) (.skip 3<|.br 9 (decide (x1≥32)) (.skip 3<|.done [] ((0:Int),(2:Int))) (.skip 7<|.done [] ((IntKind.wrap .u32 ((IntKind.wrap .u32 ((184483840:Int)+(IntKind.wrap .u32 x1)))+1)),(0:Int))))
def c_addr_Loopback:Ctr prog:=Ctr.of cfgR 10 47 (Int) (fun x=>[si x]) (.one (Int×Int)) (fun r=>.ret (.tup [su r.1,si r.2])) (fun x=>g_addr_Loopback x) (fun x=>by kernel_rfl)
def g_addr_RouterMAC(x1:Int):G prog (Sh.El (.one (Int×Int))):=
 .skip 5<|.br 6 (decide (x1<0)) (.skip 6<|.done [] ((0:Int),(2:Int))) (.skip 3<|.br 9 (decide (x1≥32)) (.skip 3<|.done [] ((0:Int),(2:Int))) (.skip 6<|.done [] ((IntKind.wrap .u64 ((2199023255552:Int)+(IntKind.wrap .u64 x1))),(0:Int))))
def c_addr_RouterMAC:Ctr prog:=Ctr.of cfgR 10 48 (Int) (fun x=>[si x]) (.one (Int×Int)) (fun r=>.ret (.tup [sq r.1,si r.2])) (fun x=>g_addr_RouterMAC x) (fun x=>by kernel_rfl)
end
end Go.L
end
section
namespace Go.L
noncomputable section
open Go.AM
def g_origin_origin_route(x1:origin_origin)(x2:NLRI)(x3:(List (V8 Int))):G prog (Sh.El (.one Route)):=
 .skip 8<|.call c_comm_Sort x3 fun(r4:(List (V8 Int)))=>.skip 3<|.done [] (Route.mk x2 (Attrs.mk (0:Int) [] x1.address false (0:Int) true (100:Int) false (0:Int) [] r4 (Tunnel.mk (0:Int) (0:Int) (0:Int) (0:Int))) (0:Int) false)
def c_origin_origin_route:Ctr prog:=Ctr.of cfgR 10 87 (origin_origin×NLRI×(List (V8 Int))) (fun x=>[.cptr (eorigin_origin x.1) 0,.agg (eNLRI x.2.1),.lst (x.2.2.map (eV8 (cI .u8)))]) (.one Route) (fun r=>.ret (.agg (eRoute r))) (fun x=>g_origin_origin_route x.1 x.2.1 x.2.2) (fun x=>by kernel_rfl)
def g_nlri_RD(x1:Int)(x2:Int):G prog (Sh.El (.one Int)):=
 .skip 9<|.done [] (IntKind.wrap .u64 (((@BitVec.toNat (IntKind.bits .u64) ((BitVec.ofInt (IntKind.bits .u64) (IntKind.wrap .u64 (((@BitVec.toNat (IntKind.bits .u64) ((BitVec.ofInt (IntKind.bits .u64) (281474976710656:Int))||| (BitVec.ofInt (IntKind.bits .u64) (IntKind.wrap .u64 ((IntKind.wrap .u64 x1)*((2:Int) ^ (@Min.min Nat instMinNat (Int.toNat 16) (IntKind.bits .u64)))))))):Nat):Int)))||| (BitVec.ofInt (IntKind.bits .u64) (IntKind.wrap .u64 x2)))):Nat):Int))
def c_nlri_RD:Ctr prog:=Ctr.of cfgR 10 92 (Int×Int) (fun x=>[su x.1,.sc (.int .u16 x.2)]) (.one Int) (fun r=>.ret (sq r)) (fun x=>g_nlri_RD x.1 x.2) (fun x=>by kernel_rfl)
def g_origin_origin_domainRD(x1:origin_origin)(x2:Int):G prog (Sh.El (.one Int)):=
 .skip 8<|.call c_nlri_RD (x1.address,(IntKind.wrap .u16 (IntKind.wrap .i64 (1+x2)))) fun(r3:Int)=>.skip 1<|.done [] r3
def c_origin_origin_domainRD:Ctr prog:=Ctr.of cfgR 10 88 (origin_origin×Int) (fun x=>[.cptr (eorigin_origin x.1) 0,si x.2]) (.one Int) (fun r=>.ret (sq r)) (fun x=>g_origin_origin_domainRD x.1 x.2) (fun x=>by kernel_rfl)
def g_origin_origin_live(x1:origin_origin)(x2:Int):G prog (Sh.El (.one Bool)):=
 .skip 4<|.br 7 (decide (x2≥0)) (.skip 5<|.op (lenO x1.up eB) fun _=>.skip 3<|.br 16 (decide (x2<(x1.up.length:Int))) (.skip 5<|.op (idxO x1.up eB 1 x2) fun x3=>.skip 3<|.br 25 x3 (.skip 6<|.op (idxO x1.fabric.Segments eSegment 2 x2) fun x4=>.skip 6<|.call c_slices_Contains_int_int (x4.Leaves,x1.self) fun(r5:Bool)=>.skip 2<|.done [] r5) (.skip 16<|.done [] false)) (.skip 25<|.done [] false)) (.skip 34<|.done [] false)
def c_origin_origin_live:Ctr prog:=Ctr.of cfgR 10 156 (origin_origin×Int) (fun x=>[.cptr (eorigin_origin x.1) 0,si x.2]) (.one Bool) (fun r=>.ret (sb r)) (fun x=>g_origin_origin_live x.1 x.2) (fun x=>by kernel_rfl)
def g_addr_SegmentESI(x1:Int):G prog (Sh.El (.one (V10 Int×Int))):=
 .skip 5<|.br 6 (decide (x1<0)) (.skip 7<|.done [] ((@V10.mk Int (0:Int) (0:Int) (0:Int) (0:Int) (0:Int) (0:Int) (0:Int) (0:Int) (0:Int) (0:Int)),(2:Int))) (.skip 3<|.br 9 (decide (x1≥64)) (.skip 4<|.done [] ((@V10.mk Int (0:Int) (0:Int) (0:Int) (0:Int) (0:Int) (0:Int) (0:Int) (0:Int) (0:Int) (0:Int)),(2:Int))) (.skip 7<|.done [] ((@V10.mk Int (3:Int) (0:Int) (0:Int) (0:Int) (0:Int) (0:Int) (0:Int) (0:Int) (0:Int) (IntKind.wrap .u8 (IntKind.wrap .i64 (x1+1)))),(0:Int))))
def c_addr_SegmentESI:Ctr prog:=Ctr.of cfgR 10 157 (Int) (fun x=>[si x]) (.one (V10 Int×Int)) (fun r=>.ret (.tup [.agg ((eV10 (cI .u8)) r.1),si r.2])) (fun x=>g_addr_SegmentESI x) (fun x=>by kernel_rfl)
def g_origin_origin_esi(x1:origin_origin)(x2:Int):G prog (Sh.El (.one (V10 Int))):=
 .skip 7<|.op (idxO x1.fabric.Segments eSegment 2 x2) fun x3=>.skip 2<|.op (lenO x3.Leaves (eI .i64)) fun _=>.skip 1<|.br 17 (decide ((x3.Leaves.length:Int)<2)) (.skip 3<|.done [] (@V10.mk Int (0:Int) (0:Int) (0:Int) (0:Int) (0:Int) (0:Int) (0:Int) (0:Int) (0:Int) (0:Int))) (.skip 2<|.call c_addr_SegmentESI x2 fun(r5:(V10 Int×Int))=>.skip 8<|.done [] r5.1)
def c_origin_origin_esi:Ctr prog:=Ctr.of cfgR 10 94 (origin_origin×Int) (fun x=>[.cptr (eorigin_origin x.1) 0,si x.2]) (.one (V10 Int)) (fun r=>.ret (.agg ((eV10 (cI .u8)) r))) (fun x=>g_origin_origin_esi x.1 x.2) (fun x=>by kernel_rfl)
def c_origin_origin_route_d:Ctr1 prog:=(Ctr1.deadAt c_origin_origin_route (origin_origin×NLRI) (V8 Int) 8 (eV8 (cI .u8)) (fun x=>[.cptr (eorigin_origin x.1) 0,.agg (eNLRI x.2)]) (fun _=>[]) (fun l x=>(x.1,x.2,l)) (fun _ _=>rfl) (fun _=>rfl) (fun _=>rfl) (fun _=>rfl) (fun _=>rfl) (fun _ _=>rfl)).re (List (V8 Int)×origin_origin×NLRI×Nat) (fun x=>(x.1,x.2.2.2,(x.2.1,x.2.2.1)))
end
end Go.L
end
