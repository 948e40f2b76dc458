/- What the functions compute, each told by a guide that the kernel checks against the program. No conditions. -/
import Derived.Test.YtomlhceogkfnlaaWk
import Derived.Test.YtomlhceogkfnlaaWt
namespace Go.L
open Go.AM
set_option maxRecDepth 100000
set_option linter.unusedVariables false
set_option linter.unusedSimpArgs false
/- leafmesh/tenant.BDOf$1 -/
noncomputable def g_tenant_BDOf_1 (x1 : Go.L.BD) (x2 : Int) : G prog (Sh.El (.one Bool)) :=
  .skip 7 <| .done [] (x1.VNI == x2)
noncomputable def c_tenant_BDOf_1 : Ctr prog := Ctr.of cfg 10 71 (Go.L.BD × Int) (fun x => [.agg (eBD x.1), .cptr [.sc (.int .u32 x.2)] 0]) (.one Bool) (fun r => .ret (.sc (.bool r))) (fun x => g_tenant_BDOf_1 x.1 x.2) (fun x => by kernel_rfl)

/- slices.IndexFunc[[]leafmesh/api.BD,leafmesh/api.BD] -/
noncomputable def g_slices_IndexFunc_BD_BD_2 (x1 : (List Go.L.BD)) (x2 : Int) : G prog (Sh.El (.one Int)) :=
  .skip 2 <| .op (lenO x1 Go.L.eBD) fun _ => .skip 1 <| .loop (.two (.one Int) (.one Unit)) [.keep [0, 1, 7, 8]] (fun (a : Int) => ⟨[(.lst (List.map Go.L.eBD x1)), (.fn (.func 71) [] [(.cptr [(.sc (.int .u32 x2))] 0)])] ++ List.replicate 5 .junk ++ [(.sc (.int .i64 (((List.length x1) : Nat) : Int))), .sc (.int .i64 a)] ++ List.replicate 10 .junk, [], []⟩)
    (Sum.elim (fun (t : Int) => (.ret, ⟨List.replicate 4 .junk ++ [.sc (.int .i64 t)] ++ List.replicate 14 .junk, [], []⟩)) (fun (_ : Unit) => (.exit 0, ⟨List.replicate 19 .junk, [], []⟩))) (0 : Int)
    (fun (a3 : Int) => .skip 1 <| .br 9 (decide (a3 < (((List.length x1) : Nat) : Int))) (.skip 6 <| .op (idxO x1 Go.L.eBD 6 a3) fun x4 => .skip 1 <| .call c_tenant_BDOf_1 (x4, x2) fun (r5 : Bool) => .br 16 r5 (.skip 3 <| .done [.keep [4]] (.inr (.inl a3))) (.skip 3 <| .done [.keep [0, 1, 7, 8]] (.inl (Go.IntKind.wrap .i64 (a3 + (1 : Int)))))) (.skip 1 <| .done [.keep []] (.inr (.inr ()))))
    (Sum.elim (fun (t9 : Int) => .done [] t9) (fun _ => .skip 1 <| .done [] (-(1 : Int))))
noncomputable def c_slices_IndexFunc_BD_BD_2 : Ctr prog := Ctr.of cfg 10 108 ((List Go.L.BD) × Int) (fun x => [.lst (x.1.map eBD), .fn (.func 71) [] [.cptr [.sc (.int .u32 x.2)] 0]]) (.one Int) (fun r => .ret (.sc (.int .i64 r))) (fun x => g_slices_IndexFunc_BD_BD_2 x.1 x.2) (fun x => by kernel_rfl)

/- leafmesh/tenant.find[leafmesh/api.BD] -/
noncomputable def g_tenant_find_BD (x1 : (List Go.L.BD)) (x2 : Int) : G prog (Sh.El (.one (Prod Int Bool))) :=
  .skip 4 <| .call c_slices_IndexFunc_BD_BD_2 (x1, x2) fun (r3 : Int) => .skip 3 <| .br 11 (decide (r3 < (0 : Int))) (.skip 3 <| .done [] ((0 : Int), false)) (.skip 4 <| .done [] (r3, true))
noncomputable def c_tenant_find_BD : Ctr prog := Ctr.of cfg 10 70 ((List Go.L.BD) × Int) (fun x => [.lst (x.1.map eBD), .fn (.func 71) [] [.cptr [.sc (.int .u32 x.2)] 0]]) (.one (Prod Int Bool)) (fun r => .ret (.tup [.sc (.int .i64 r.1), .sc (.bool r.2)])) (fun x => g_tenant_find_BD x.1 x.2) (fun x => by kernel_rfl)

/- leafmesh/tenant.BDOf -/
noncomputable def g_tenant_BDOf (x1 : Go.L.Fabric) (x2 : Int) : G prog (Sh.El (.one (Prod Int Bool))) :=
  .skip 5 <| .call c_tenant_valid x1 fun (r3 : Bool) => .skip 1 <| .br 8 (!r3) (.skip 3 <| .done [] ((0 : Int), false)) (.skip 4 <| .call c_tenant_find_BD (x1.BDs, x2) fun (r5 : (Prod Int Bool)) => .skip 4 <| .done [] (r5.1, r5.2))
noncomputable def c_tenant_BDOf : Ctr prog := Ctr.of cfg 10 28 (Go.L.Fabric × Int) (fun x => [.agg (eFabric x.1), .sc (.int .u32 x.2)]) (.one (Prod Int Bool)) (fun r => .ret (.tup [.sc (.int .i64 r.1), .sc (.bool r.2)])) (fun x => g_tenant_BDOf x.1 x.2) (fun x => by kernel_rfl)

/- leafmesh/tenant.DomainOf$1 -/
noncomputable def g_tenant_DomainOf_1 (x1 : Go.L.BD) (x2 : Int) : G prog (Sh.El (.one Bool)) :=
  .skip 7 <| .done [] (x1.Target == x2)
noncomputable def c_tenant_DomainOf_1 : Ctr prog := Ctr.of cfg 10 72 (Go.L.BD × Int) (fun x => [.agg (eBD x.1), .cptr [.sc (.int .u32 x.2)] 0]) (.one Bool) (fun r => .ret (.sc (.bool r))) (fun x => g_tenant_DomainOf_1 x.1 x.2) (fun x => by kernel_rfl)

/- slices.IndexFunc[[]leafmesh/api.BD,leafmesh/api.BD] -/
noncomputable def g_slices_IndexFunc_BD_BD_3 (x1 : (List Go.L.BD)) (x2 : Int) : G prog (Sh.El (.one Int)) :=
  .skip 2 <| .op (lenO x1 Go.L.eBD) fun _ => .skip 1 <| .loop (.two (.one Int) (.one Unit)) [.keep [0, 1, 7, 8]] (fun (a : Int) => ⟨[(.lst (List.map Go.L.eBD x1)), (.fn (.func 72) [] [(.cptr [(.sc (.int .u32 x2))] 0)])] ++ List.replicate 5 .junk ++ [(.sc (.int .i64 (((List.length x1) : Nat) : Int))), .sc (.int .i64 a)] ++ List.replicate 10 .junk, [], []⟩)
    (Sum.elim (fun (t : Int) => (.ret, ⟨List.replicate 4 .junk ++ [.sc (.int .i64 t)] ++ List.replicate 14 .junk, [], []⟩)) (fun (_ : Unit) => (.exit 0, ⟨List.replicate 19 .junk, [], []⟩))) (0 : Int)
    (fun (a3 : Int) => .skip 1 <| .br 9 (decide (a3 < (((List.length x1) : Nat) : Int))) (.skip 6 <| .op (idxO x1 Go.L.eBD 6 a3) fun x4 => .skip 1 <| .call c_tenant_DomainOf_1 (x4, x2) fun (r5 : Bool) => .br 16 r5 (.skip 3 <| .done [.keep [4]] (.inr (.inl a3))) (.skip 3 <| .done [.keep [0, 1, 7, 8]] (.inl (Go.IntKind.wrap .i64 (a3 + (1 : Int)))))) (.skip 1 <| .done [.keep []] (.inr (.inr ()))))
    (Sum.elim (fun (t9 : Int) => .done [] t9) (fun _ => .skip 1 <| .done [] (-(1 : Int))))
noncomputable def c_slices_IndexFunc_BD_BD_3 : Ctr prog := Ctr.of cfg 10 108 ((List Go.L.BD) × Int) (fun x => [.lst (x.1.map eBD), .fn (.func 72) [] [.cptr [.sc (.int .u32 x.2)] 0]]) (.one Int) (fun r => .ret (.sc (.int .i64 r))) (fun x => g_slices_IndexFunc_BD_BD_3 x.1 x.2) (fun x => by kernel_rfl)

/- leafmesh/tenant.find[leafmesh/api.BD] -/
noncomputable def g_tenant_find_BD_2 (x1 : (List Go.L.BD)) (x2 : Int) : G prog (Sh.El (.one (Prod Int Bool))) :=
  .skip 4 <| .call c_slices_IndexFunc_BD_BD_3 (x1, x2) fun (r3 : Int) => .skip 3 <| .br 11 (decide (r3 < (0 : Int))) (.skip 3 <| .done [] ((0 : Int), false)) (.skip 4 <| .done [] (r3, true))
noncomputable def c_tenant_find_BD_2 : Ctr prog := Ctr.of cfg 10 70 ((List Go.L.BD) × Int) (fun x => [.lst (x.1.map eBD), .fn (.func 72) [] [.cptr [.sc (.int .u32 x.2)] 0]]) (.one (Prod Int Bool)) (fun r => .ret (.tup [.sc (.int .i64 r.1), .sc (.bool r.2)])) (fun x => g_tenant_find_BD_2 x.1 x.2) (fun x => by kernel_rfl)

/- leafmesh/tenant.DomainOf -/
noncomputable def g_tenant_DomainOf (x1 : Go.L.Fabric) (x2 : Int) : G prog (Sh.El (.one (Prod Int Bool))) :=
  .skip 5 <| .call c_tenant_valid x1 fun (r3 : Bool) => .skip 1 <| .br 8 (!r3) (.skip 3 <| .done [] ((0 : Int), false)) (.skip 4 <| .call c_tenant_find_BD_2 (x1.BDs, x2) fun (r5 : (Prod Int Bool)) => .skip 4 <| .done [] (r5.1, r5.2))
noncomputable def c_tenant_DomainOf : Ctr prog := Ctr.of cfg 10 29 (Go.L.Fabric × Int) (fun x => [.agg (eFabric x.1), .sc (.int .u32 x.2)]) (.one (Prod Int Bool)) (fun r => .ret (.tup [.sc (.int .i64 r.1), .sc (.bool r.2)])) (fun x => g_tenant_DomainOf x.1 x.2) (fun x => by kernel_rfl)

/- leafmesh/tenant.RouterOf$1 -/
noncomputable def g_tenant_RouterOf_1 (x1 : Go.L.Tenant) (x2 : Int) : G prog (Sh.El (.one Bool)) :=
  .skip 7 <| .done [] (x1.Target == x2)
noncomputable def c_tenant_RouterOf_1 : Ctr prog := Ctr.of cfg 10 75 (Go.L.Tenant × Int) (fun x => [.agg (eTenant x.1), .cptr [.sc (.int .u32 x.2)] 0]) (.one Bool) (fun r => .ret (.sc (.bool r))) (fun x => g_tenant_RouterOf_1 x.1 x.2) (fun x => by kernel_rfl)

/- slices.IndexFunc[[]leafmesh/api.Tenant,leafmesh/api.Tenant] -/
noncomputable def g_slices_IndexFunc_Tenant_Tenant_4 (x1 : (List Go.L.Tenant)) (x2 : Int) : G prog (Sh.El (.one Int)) :=
  .skip 2 <| .op (lenO x1 Go.L.eTenant) fun _ => .skip 1 <| .loop (.two (.one Int) (.one Unit)) [.keep [0, 1, 7, 8]] (fun (a : Int) => ⟨[(.lst (List.map Go.L.eTenant x1)), (.fn (.func 75) [] [(.cptr [(.sc (.int .u32 x2))] 0)])] ++ List.replicate 5 .junk ++ [(.sc (.int .i64 (((List.length x1) : Nat) : Int))), .sc (.int .i64 a)] ++ List.replicate 10 .junk, [], []⟩)
    (Sum.elim (fun (t : Int) => (.ret, ⟨List.replicate 4 .junk ++ [.sc (.int .i64 t)] ++ List.replicate 14 .junk, [], []⟩)) (fun (_ : Unit) => (.exit 0, ⟨List.replicate 19 .junk, [], []⟩))) (0 : Int)
    (fun (a3 : Int) => .skip 1 <| .br 9 (decide (a3 < (((List.length x1) : Nat) : Int))) (.skip 6 <| .op (idxO x1 Go.L.eTenant 2 a3) fun x4 => .skip 1 <| .call c_tenant_RouterOf_1 (x4, x2) fun (r5 : Bool) => .br 16 r5 (.skip 3 <| .done [.keep [4]] (.inr (.inl a3))) (.skip 3 <| .done [.keep [0, 1, 7, 8]] (.inl (Go.IntKind.wrap .i64 (a3 + (1 : Int)))))) (.skip 1 <| .done [.keep []] (.inr (.inr ()))))
    (Sum.elim (fun (t9 : Int) => .done [] t9) (fun _ => .skip 1 <| .done [] (-(1 : Int))))
noncomputable def c_slices_IndexFunc_Tenant_Tenant_4 : Ctr prog := Ctr.of cfg 10 109 ((List Go.L.Tenant) × Int) (fun x => [.lst (x.1.map eTenant), .fn (.func 75) [] [.cptr [.sc (.int .u32 x.2)] 0]]) (.one Int) (fun r => .ret (.sc (.int .i64 r))) (fun x => g_slices_IndexFunc_Tenant_Tenant_4 x.1 x.2) (fun x => by kernel_rfl)

/- leafmesh/tenant.find[leafmesh/api.Tenant] -/
noncomputable def g_tenant_find_Tenant_2 (x1 : (List Go.L.Tenant)) (x2 : Int) : G prog (Sh.El (.one (Prod Int Bool))) :=
  .skip 4 <| .call c_slices_IndexFunc_Tenant_Tenant_4 (x1, x2) fun (r3 : Int) => .skip 3 <| .br 11 (decide (r3 < (0 : Int))) (.skip 3 <| .done [] ((0 : Int), false)) (.skip 4 <| .done [] (r3, true))
noncomputable def c_tenant_find_Tenant_2 : Ctr prog := Ctr.of cfg 10 73 ((List Go.L.Tenant) × Int) (fun x => [.lst (x.1.map eTenant), .fn (.func 75) [] [.cptr [.sc (.int .u32 x.2)] 0]]) (.one (Prod Int Bool)) (fun r => .ret (.tup [.sc (.int .i64 r.1), .sc (.bool r.2)])) (fun x => g_tenant_find_Tenant_2 x.1 x.2) (fun x => by kernel_rfl)

/- leafmesh/tenant.RouterOf -/
noncomputable def g_tenant_RouterOf (x1 : Go.L.Fabric) (x2 : Int) : G prog (Sh.El (.one (Prod Int Bool))) :=
  .skip 5 <| .call c_tenant_valid x1 fun (r3 : Bool) => .skip 1 <| .br 8 (!r3) (.skip 3 <| .done [] ((0 : Int), false)) (.skip 4 <| .call c_tenant_find_Tenant_2 (x1.Tenants, x2) fun (r5 : (Prod Int Bool)) => .skip 4 <| .done [] (r5.1, r5.2))
noncomputable def c_tenant_RouterOf : Ctr prog := Ctr.of cfg 10 31 (Go.L.Fabric × Int) (fun x => [.agg (eFabric x.1), .sc (.int .u32 x.2)]) (.one (Prod Int Bool)) (fun r => .ret (.tup [.sc (.int .i64 r.1), .sc (.bool r.2)])) (fun x => g_tenant_RouterOf x.1 x.2) (fun x => by kernel_rfl)

/- leafmesh/tenant.multihomed -/
noncomputable def g_tenant_multihomed (x1 : Go.L.Fabric) (x2 : Int) : G prog (Sh.El (.one Bool)) :=
  .skip 5 <| .op (lenO x1.Segments Go.L.eSegment) fun _ => .call c_tenant_within (x2, (((List.length x1.Segments) : Nat) : Int)) fun (r3 : Bool) => .skip 1 <| .br 10 r3 (.skip 3 <| .op (idxO x1.Segments Go.L.eSegment 2 x2) fun x4 => .skip 2 <| .op (lenO x4.Leaves (Go.AM.eI .i64)) fun _ => .skip 3 <| .done [] (decide ((((List.length x4.Leaves) : Nat) : Int) > (1 : Int)))) (.skip 10 <| .done [] false)
noncomputable def c_tenant_multihomed : Ctr prog := Ctr.of cfg 10 77 (Go.L.Fabric × Int) (fun x => [.agg (eFabric x.1), .sc (.int .i64 x.2)]) (.one Bool) (fun r => .ret (.sc (.bool r))) (fun x => g_tenant_multihomed x.1 x.2) (fun x => by kernel_rfl)

/- leafmesh/addr.SegmentESI -/
noncomputable def g_addr_SegmentESI (x1 : Int) : G prog (Sh.El (.one (Prod (Go.AM.V10 Int) Int))) :=
  .skip 5 <| .br 6 (decide (x1 < (0 : Int))) (.skip 7 <| .done [] ((@Go.AM.V10.mk Int (0 : Int) (0 : Int) (0 : Int) (0 : Int) (0 : Int) (0 : Int) (0 : Int) (0 : Int) (0 : Int) (0 : Int)), (2 : Int))) (.skip 3 <| .br 9 (decide (x1 ≥ (64 : Int))) (.skip 4 <| .done [] ((@Go.AM.V10.mk Int (0 : Int) (0 : Int) (0 : Int) (0 : Int) (0 : Int) (0 : Int) (0 : Int) (0 : Int) (0 : Int) (0 : Int)), (2 : Int))) (.skip 7 <| .done [] ((@Go.AM.V10.mk Int (3 : Int) (0 : Int) (0 : Int) (0 : Int) (0 : Int) (0 : Int) (0 : Int) (0 : Int) (0 : Int) (Go.IntKind.wrap .u8 (Go.IntKind.wrap .i64 (x1 + (1 : Int))))), (0 : Int))))
noncomputable def c_addr_SegmentESI : Ctr prog := Ctr.of cfg 10 78 (Int) (fun x => [.sc (.int .i64 x)]) (.one (Prod (Go.AM.V10 Int) Int)) (fun r => .ret (.tup [.agg ((eV10 (cI .u8)) r.1), .sc (.int .i64 r.2)])) (fun x => g_addr_SegmentESI x) (fun x => by kernel_rfl)

/- leafmesh/tenant.ESI -/
noncomputable def g_tenant_ESI (x1 : Go.L.Fabric) (x2 : Int) : G prog (Sh.El (.one (Go.AM.V10 Int))) :=
  .skip 3 <| .call c_tenant_valid x1 fun (r3 : Bool) => .skip 2 <| .br 10 (!r3) (.skip 8 <| .done [] (@Go.AM.V10.mk Int (0 : Int) (0 : Int) (0 : Int) (0 : Int) (0 : Int) (0 : Int) (0 : Int) (0 : Int) (0 : Int) (0 : Int))) (.skip 2 <| .call c_tenant_multihomed (x1, x2) fun (r5 : Bool) => .skip 2 <| .br 15 (!r5) (.skip 3 <| .done [] (@Go.AM.V10.mk Int (0 : Int) (0 : Int) (0 : Int) (0 : Int) (0 : Int) (0 : Int) (0 : Int) (0 : Int) (0 : Int) (0 : Int))) (.skip 2 <| .call c_addr_SegmentESI x2 fun (r7 : (Prod (Go.AM.V10 Int) Int)) => .skip 8 <| .done [] r7.1))
noncomputable def c_tenant_ESI : Ctr prog := Ctr.of cfg 10 33 (Go.L.Fabric × Int) (fun x => [.agg (eFabric x.1), .sc (.int .i64 x.2)]) (.one (Go.AM.V10 Int)) (fun r => .ret (.agg ((eV10 (cI .u8)) r))) (fun x => g_tenant_ESI x.1 x.2) (fun x => by kernel_rfl)

/- leafmesh/addr.octets -/
noncomputable def g_addr_octets (x1 : (Go.AM.V10 Int)) : G prog (Sh.El (.one (Prod Int (Prod Int (Prod Int (Prod Int (Prod Int (Prod Int (Prod Int (Prod Int (Prod Int Int))))))))))) :=
  .skip 4 <| .done [] (x1.a0, x1.a1, x1.a2, x1.a3, x1.a4, x1.a5, x1.a6, x1.a7, x1.a8, x1.a9)
noncomputable def c_addr_octets : Ctr prog := Ctr.of cfg 10 158 ((Go.AM.V10 Int)) (fun x => [.agg ((eV10 (cI .u8)) x)]) (.one (Prod Int (Prod Int (Prod Int (Prod Int (Prod Int (Prod Int (Prod Int (Prod Int (Prod Int Int)))))))))) (fun r => .ret (.fn (.func 171) [] [.cptr [.sc (.int .u8 r.1), .sc (.int .u8 r.2.1), .sc (.int .u8 r.2.2.1), .sc (.int .u8 r.2.2.2.1), .sc (.int .u8 r.2.2.2.2.1), .sc (.int .u8 r.2.2.2.2.2.1), .sc (.int .u8 r.2.2.2.2.2.2.1), .sc (.int .u8 r.2.2.2.2.2.2.2.1), .sc (.int .u8 r.2.2.2.2.2.2.2.2.1), .sc (.int .u8 r.2.2.2.2.2.2.2.2.2)] 0])) (fun x => g_addr_octets x) (fun x => by kernel_rfl)

/- cmp.isNaN[byte] -/
noncomputable def g_cmp_isNaN_byte (x1 : Int) : G prog (Sh.El (.one Bool)) :=
  .skip 5 <| .done [] (x1 != x1)
noncomputable def c_cmp_isNaN_byte : Ctr prog := Ctr.of cfg 10 172 (Int) (fun x => [.sc (.int .u8 x)]) (.one Bool) (fun r => .ret (.sc (.bool r))) (fun x => g_cmp_isNaN_byte x) (fun x => by kernel_rfl)

/- cmp.Compare[byte] -/
noncomputable def g_cmp_Compare_byte (x1 : Int) (x2 : Int) : G prog (Sh.El (.one Int)) :=
  .skip 2 <| .call c_cmp_isNaN_byte x1 fun (r3 : Bool) => .skip 2 <| .call c_cmp_isNaN_byte x2 fun (r4 : Bool) => .skip 2 <| .br 11 r3 (.skip 2 <| .br 12 r4 (.skip 2 <| .done [] (0 : Int)) (.skip 2 <| .done [] (-(1 : Int)))) (.skip 2 <| .br 13 r4 (.skip 2 <| .done [] (1 : Int)) (.skip 4 <| .br 16 (decide (x1 < x2)) (.skip 2 <| .done [] (-(1 : Int))) (.skip 4 <| .br 19 (decide (x1 > x2)) (.skip 2 <| .done [] (1 : Int)) (.skip 2 <| .done [] (0 : Int)))))
noncomputable def c_cmp_Compare_byte : Ctr prog := Ctr.of cfg 10 159 (Int × Int) (fun x => [.sc (.int .u8 x.1), .sc (.int .u8 x.2)]) (.one Int) (fun r => .ret (.sc (.int .i64 r))) (fun x => g_cmp_Compare_byte x.1 x.2) (fun x => by kernel_rfl)

/- leafmesh/addr.CompareESI -/
noncomputable def g_addr_CompareESI (x1 : (Go.AM.V10 Int)) (x2 : (Go.AM.V10 Int)) : G prog (Sh.El (.one Int)) :=
  .skip 4 <| .call c_addr_octets x1 fun (r3 : (Prod Int (Prod Int (Prod Int (Prod Int (Prod Int (Prod Int (Prod Int (Prod Int (Prod Int Int)))))))))) => .inl [] <| .skip 2 <| .unroll 300 <| .skip 9 <| .inl [] <| .skip 6 <| .call c_cmp_Compare_byte (r3.1, x2.a0) fun (r4 : Int) => .skip 3 <| .br 18 (r4 != (0 : Int)) (.skip 3 <| .tidy [] <| .skip 2 <| .tidy [] <| .inl [] <| .done [] r4) (.skip 1 <| .tidy [] <| .skip 13 <| .inl [] <| .skip 6 <| .call c_cmp_Compare_byte (r3.2.1, x2.a1) fun (r6 : Int) => .skip 3 <| .br 18 (r6 != (0 : Int)) (.skip 3 <| .tidy [] <| .skip 2 <| .tidy [] <| .inl [] <| .done [] r6) (.skip 1 <| .tidy [] <| .skip 13 <| .inl [] <| .skip 6 <| .call c_cmp_Compare_byte (r3.2.2.1, x2.a2) fun (r8 : Int) => .skip 3 <| .br 18 (r8 != (0 : Int)) (.skip 3 <| .tidy [] <| .skip 2 <| .tidy [] <| .inl [] <| .done [] r8) (.skip 1 <| .tidy [] <| .skip 13 <| .inl [] <| .skip 6 <| .call c_cmp_Compare_byte (r3.2.2.2.1, x2.a3) fun (r10 : Int) => .skip 3 <| .br 18 (r10 != (0 : Int)) (.skip 3 <| .tidy [] <| .skip 2 <| .tidy [] <| .inl [] <| .done [] r10) (.skip 1 <| .tidy [] <| .skip 13 <| .inl [] <| .skip 6 <| .call c_cmp_Compare_byte (r3.2.2.2.2.1, x2.a4) fun (r12 : Int) => .skip 3 <| .br 18 (r12 != (0 : Int)) (.skip 3 <| .tidy [] <| .skip 2 <| .tidy [] <| .inl [] <| .done [] r12) (.skip 1 <| .tidy [] <| .skip 13 <| .inl [] <| .skip 6 <| .call c_cmp_Compare_byte (r3.2.2.2.2.2.1, x2.a5) fun (r14 : Int) => .skip 3 <| .br 18 (r14 != (0 : Int)) (.skip 3 <| .tidy [] <| .skip 2 <| .tidy [] <| .inl [] <| .done [] r14) (.skip 1 <| .tidy [] <| .skip 13 <| .inl [] <| .skip 6 <| .call c_cmp_Compare_byte (r3.2.2.2.2.2.2.1, x2.a6) fun (r16 : Int) => .skip 3 <| .br 18 (r16 != (0 : Int)) (.skip 3 <| .tidy [] <| .skip 2 <| .tidy [] <| .inl [] <| .done [] r16) (.skip 1 <| .tidy [] <| .skip 13 <| .inl [] <| .skip 6 <| .call c_cmp_Compare_byte (r3.2.2.2.2.2.2.2.1, x2.a7) fun (r18 : Int) => .skip 3 <| .br 18 (r18 != (0 : Int)) (.skip 3 <| .tidy [] <| .skip 2 <| .tidy [] <| .inl [] <| .done [] r18) (.skip 1 <| .tidy [] <| .skip 13 <| .inl [] <| .skip 6 <| .call c_cmp_Compare_byte (r3.2.2.2.2.2.2.2.2.1, x2.a8) fun (r20 : Int) => .skip 3 <| .br 18 (r20 != (0 : Int)) (.skip 3 <| .tidy [] <| .skip 2 <| .tidy [] <| .inl [] <| .done [] r20) (.skip 1 <| .tidy [] <| .skip 13 <| .inl [] <| .skip 6 <| .call c_cmp_Compare_byte (r3.2.2.2.2.2.2.2.2.2, x2.a9) fun (r22 : Int) => .skip 3 <| .br 18 (r22 != (0 : Int)) (.skip 3 <| .tidy [] <| .skip 2 <| .tidy [] <| .inl [] <| .done [] r22) (.skip 1 <| .tidy [] <| .skip 6 <| .tidy [] <| .inl [] <| .skip 1 <| .done [] (0 : Int)))))))))))
noncomputable def c_addr_CompareESI : Ctr prog := Ctr.of cfg 10 110 ((Go.AM.V10 Int) × (Go.AM.V10 Int)) (fun x => [.agg ((eV10 (cI .u8)) x.1), .agg ((eV10 (cI .u8)) x.2)]) (.one Int) (fun r => .ret (.sc (.int .i64 r))) (fun x => g_addr_CompareESI x.1 x.2) (fun x => by kernel_rfl)

/- leafmesh/addr.ESISegment -/
noncomputable def g_addr_ESISegment (x1 : (Go.AM.V10 Int)) : G prog (Sh.El (.one (Prod Int Bool))) :=
  .skip 9 <| .call c_addr_SegmentESI (Go.IntKind.wrap .i64 ((Go.IntKind.wrap .i64 x1.a9) - (1 : Int))) fun (r2 : (Prod (Go.AM.V10 Int) Int)) => .skip 9 <| .br 18 (r2.2 != (0 : Int)) (.skip 8 <| .done [] ((0 : Int), false)) (.skip 2 <| .call c_addr_CompareESI (r2.1, x1) fun (r4 : Int) => .skip 2 <| .br 23 (r4 != (0 : Int)) (.skip 3 <| .done [] ((0 : Int), false)) (.skip 5 <| .done [] ((Go.IntKind.wrap .i64 ((Go.IntKind.wrap .i64 x1.a9) - (1 : Int))), true)))
noncomputable def c_addr_ESISegment : Ctr prog := Ctr.of cfg 10 76 ((Go.AM.V10 Int)) (fun x => [.agg ((eV10 (cI .u8)) x)]) (.one (Prod Int Bool)) (fun r => .ret (.tup [.sc (.int .i64 r.1), .sc (.bool r.2)])) (fun x => g_addr_ESISegment x) (fun x => by kernel_rfl)

/- leafmesh/tenant.SegmentOf -/
noncomputable def g_tenant_SegmentOf (x1 : Go.L.Fabric) (x2 : (Go.AM.V10 Int)) : G prog (Sh.El (.one (Prod Int Bool))) :=
  .skip 5 <| .call c_addr_ESISegment x2 fun (r3 : (Prod Int Bool)) => .skip 8 <| .br 15 (!r3.2) (.skip 13 <| .done [] ((0 : Int), false)) (.skip 1 <| .call c_tenant_valid x1 fun (r5 : Bool) => .skip 3 <| .br 20 (!r5) (.skip 8 <| .done [] ((0 : Int), false)) (.skip 2 <| .call c_tenant_multihomed (x1, r3.1) fun (r7 : Bool) => .skip 2 <| .br 25 (!r7) (.skip 3 <| .done [] ((0 : Int), false)) (.skip 4 <| .done [] (r3.1, true))))
noncomputable def c_tenant_SegmentOf : Ctr prog := Ctr.of cfg 10 32 (Go.L.Fabric × (Go.AM.V10 Int)) (fun x => [.agg (eFabric x.1), .agg ((eV10 (cI .u8)) x.2)]) (.one (Prod Int Bool)) (fun r => .ret (.tup [.sc (.int .i64 r.1), .sc (.bool r.2)])) (fun x => g_tenant_SegmentOf x.1 x.2) (fun x => by kernel_rfl)

/- leafmesh/tenant.Label -/
noncomputable def g_tenant_Label (x1 : Go.L.Fabric) (x2 : Int) : G prog (Sh.El (.one Int)) :=
  .skip 3 <| .call c_tenant_valid x1 fun (r3 : Bool) => .skip 2 <| .br 8 (!r3) (.skip 7 <| .done [] (0 : Int)) (.skip 2 <| .call c_tenant_multihomed (x1, x2) fun (r5 : Bool) => .skip 2 <| .br 13 (!r5) (.skip 2 <| .done [] (0 : Int)) (.skip 5 <| .done [] (Go.IntKind.wrap .u32 ((Go.IntKind.wrap .u32 x2) + (1 : Int)))))
noncomputable def c_tenant_Label : Ctr prog := Ctr.of cfg 10 34 (Go.L.Fabric × Int) (fun x => [.agg (eFabric x.1), .sc (.int .i64 x.2)]) (.one Int) (fun r => .ret (.sc (.int .u32 r))) (fun x => g_tenant_Label x.1 x.2) (fun x => by kernel_rfl)

/- leafmesh/tenant.loopback -/
noncomputable def g_tenant_loopback (x1 : Int) : G prog (Sh.El (.one Int)) :=
  .skip 2 <| .call c_addr_Loopback x1 fun (r2 : (Prod Int Int)) => .skip 7 <| .done [] r2.1
noncomputable def c_tenant_loopback : Ctr prog := Ctr.of cfg 10 61 (Int) (fun x => [.sc (.int .i64 x)]) (.one Int) (fun r => .ret (.sc (.int .u32 r))) (fun x => g_tenant_loopback x) (fun x => by kernel_rfl)

/- leafmesh/nlri.RD -/
noncomputable def g_nlri_RD (x1 : Int) (x2 : Int) : G prog (Sh.El (.one Int)) :=
  .skip 9 <| .done [] (Go.IntKind.wrap .u64 (((@BitVec.toNat (Go.IntKind.bits .u64) ((BitVec.ofInt (Go.IntKind.bits .u64) (Go.IntKind.wrap .u64 (((@BitVec.toNat (Go.IntKind.bits .u64) ((BitVec.ofInt (Go.IntKind.bits .u64) (281474976710656 : Int)) ||| (BitVec.ofInt (Go.IntKind.bits .u64) (Go.IntKind.wrap .u64 ((Go.IntKind.wrap .u64 x1) * ((2 : Int) ^ (@Min.min Nat instMinNat (Int.toNat (16 : Int)) (Go.IntKind.bits .u64)))))))) : Nat) : Int))) ||| (BitVec.ofInt (Go.IntKind.bits .u64) (Go.IntKind.wrap .u64 x2)))) : Nat) : Int))
noncomputable def c_nlri_RD : Ctr prog := Ctr.of cfg 10 26 (Int × Int) (fun x => [.sc (.int .u32 x.1), .sc (.int .u16 x.2)]) (.one Int) (fun r => .ret (.sc (.int .u64 r))) (fun x => g_nlri_RD x.1 x.2) (fun x => by kernel_rfl)

/- leafmesh/tenant.SegmentRD -/
noncomputable def g_tenant_SegmentRD (x1 : Go.L.Fabric) (x2 : Int) : G prog (Sh.El (.one Int)) :=
  .skip 3 <| .call c_tenant_valid x1 fun (r3 : Bool) => .skip 2 <| .br 8 (!r3) (.skip 8 <| .done [] (0 : Int)) (.skip 3 <| .call c_tenant_within (x2, x1.Leaves) fun (r5 : Bool) => .skip 2 <| .br 14 (!r5) (.skip 2 <| .done [] (0 : Int)) (.skip 2 <| .call c_tenant_loopback x2 fun (r7 : Int) => .call c_nlri_RD (r7, (0 : Int)) fun (r8 : Int) => .skip 1 <| .done [] r8))
noncomputable def c_tenant_SegmentRD : Ctr prog := Ctr.of cfg 10 79 (Go.L.Fabric × Int) (fun x => [.agg (eFabric x.1), .sc (.int .i64 x.2)]) (.one Int) (fun r => .ret (.sc (.int .u64 r))) (fun x => g_tenant_SegmentRD x.1 x.2) (fun x => by kernel_rfl)

/- leafmesh/tenant.BDRD -/
noncomputable def g_tenant_BDRD (x1 : Go.L.Fabric) (x2 : Int) (x3 : Int) : G prog (Sh.El (.one Int)) :=
  .skip 3 <| .call c_tenant_valid x1 fun (r4 : Bool) => .skip 2 <| .br 10 (!r4) (.skip 16 <| .done [] (0 : Int)) (.skip 3 <| .call c_tenant_within (x2, x1.Leaves) fun (r6 : Bool) => .skip 3 <| .br 17 (!r6) (.skip 9 <| .done [] (0 : Int)) (.skip 3 <| .op (lenO x1.BDs Go.L.eBD) fun _ => .call c_tenant_within (x3, (((List.length x1.BDs) : Nat) : Int)) fun (r8 : Bool) => .skip 2 <| .br 24 (!r8) (.skip 2 <| .done [] (0 : Int)) (.skip 2 <| .call c_tenant_loopback x2 fun (r10 : Int) => .skip 3 <| .call c_nlri_RD (r10, (Go.IntKind.wrap .u16 (Go.IntKind.wrap .i64 ((1 : Int) + x3)))) fun (r11 : Int) => .skip 1 <| .done [] r11)))
noncomputable def c_tenant_BDRD : Ctr prog := Ctr.of cfg 10 25 (Go.L.Fabric × Int × Int) (fun x => [.agg (eFabric x.1), .sc (.int .i64 x.2.1), .sc (.int .i64 x.2.2)]) (.one Int) (fun r => .ret (.sc (.int .u64 r))) (fun x => g_tenant_BDRD x.1 x.2.1 x.2.2) (fun x => by kernel_rfl)

/- leafmesh/tenant.TenantRD -/
noncomputable def g_tenant_TenantRD (x1 : Go.L.Fabric) (x2 : Int) (x3 : Int) : G prog (Sh.El (.one Int)) :=
  .skip 3 <| .call c_tenant_valid x1 fun (r4 : Bool) => .skip 2 <| .br 10 (!r4) (.skip 16 <| .done [] (0 : Int)) (.skip 3 <| .call c_tenant_within (x2, x1.Leaves) fun (r6 : Bool) => .skip 3 <| .br 17 (!r6) (.skip 9 <| .done [] (0 : Int)) (.skip 3 <| .op (lenO x1.Tenants Go.L.eTenant) fun _ => .call c_tenant_within (x3, (((List.length x1.Tenants) : Nat) : Int)) fun (r8 : Bool) => .skip 2 <| .br 24 (!r8) (.skip 2 <| .done [] (0 : Int)) (.skip 2 <| .call c_tenant_loopback x2 fun (r10 : Int) => .skip 3 <| .call c_nlri_RD (r10, (Go.IntKind.wrap .u16 (Go.IntKind.wrap .i64 ((1001 : Int) + x3)))) fun (r11 : Int) => .skip 1 <| .done [] r11)))
noncomputable def c_tenant_TenantRD : Ctr prog := Ctr.of cfg 10 27 (Go.L.Fabric × Int × Int) (fun x => [.agg (eFabric x.1), .sc (.int .i64 x.2.1), .sc (.int .i64 x.2.2)]) (.one Int) (fun r => .ret (.sc (.int .u64 r))) (fun x => g_tenant_TenantRD x.1 x.2.1 x.2.2) (fun x => by kernel_rfl)

/- leafmesh/leafmeshlaw22.rds -/
noncomputable def g_law22_rds (x1 : Go.L.Fabric) : G prog (Sh.El (.one (List Int))) :=
  .skip 4 <| .loop (.one (List Int)) [.keep [1, 3, 4], .cut [0] [] [], .own (.s 3) 1] (fun (a : (Prod Int (List Int))) => ⟨[.junk, (.ptr 0 0 0 0), .junk, .sl 1 0 1 0 a.2.length, .sc (.int .i64 a.1)] ++ List.replicate 43 .junk, [.row 0 19 [eFabric x1], .row 0 1 (a.2.map (eI .u64))], []⟩)
    (fun (t : (List Int)) => (.exit 0, ⟨[.junk, .junk, .junk, .sl 1 0 1 0 t.length] ++ List.replicate 44 .junk, [.row 0 19 [eFabric x1], .row 0 1 (t.map (eI .u64))], []⟩)) ((0 : Int), [])
    (fun (a62 : (Prod Int (List Int))) => .skip 4 <| .br 10 (decide (a62.1 < x1.Leaves)) (.skip 4 <| .call c_tenant_SegmentRD (x1, a62.1) fun (r63 : Int) => .skip 1 <| .op (appO (List.length a62.2) a62.2 [r63] (eI .u64) 1 8 1 0 3 [2]) fun _ => .skip 2 <| .loop (.one (List Int)) [.keep [1, 3, 4, 5], .cut [0, 1] [] [puRow 1 1 1 (a62.2 ++ [r63]) (Go.AM.eI .u64) fun _ => rfl]] (fun (a : (Prod Int (List Int))) => ⟨[.junk, (.ptr 0 0 0 0), .junk, .sl 1 0 1 0 a.2.length, (.sc (.int .i64 a62.1)), .sc (.int .i64 a.1)] ++ List.replicate 42 .junk, [.row 0 19 [eFabric x1], .row 0 1 (a.2.map (eI .u64))], []⟩)
    (fun (t : (List Int)) => (.exit 2, ⟨[.junk, (.ptr 0 0 0 0), .junk, .sl 1 0 1 0 t.length, (.sc (.int .i64 a62.1))] ++ List.replicate 43 .junk, [.row 0 19 [eFabric x1], .row 0 1 (t.map (eI .u64))], []⟩)) ((0 : Int), (a62.2 ++ [r63]))
    (fun (a72 : (Prod Int (List Int))) => .skip 3 <| .op (lenO x1.BDs Go.L.eBD) fun _ => .skip 1 <| .br 23 (decide (a72.1 < (((List.length x1.BDs) : Nat) : Int))) (.skip 5 <| .call c_tenant_BDRD (x1, a62.1, a72.1) fun (r73 : Int) => .skip 1 <| .op (appO (List.length a72.2) a72.2 [r73] (eI .u64) 1 8 1 0 3 [2]) fun _ => .skip 4 <| .done [.keep [1, 3, 4, 5], .cut [0, 1] [] [puRow 1 1 1 (a72.2 ++ [r73]) (Go.AM.eI .u64) fun _ => rfl]] (.inl ((Go.IntKind.wrap .i64 (a72.1 + (1 : Int))), (a72.2 ++ [r73])))) (.skip 1 <| .done [.keep [1, 3, 4], .cut [0, 1] [] [puRow 1 0 1 a72.2 (Go.AM.eI .u64) fun _ => rfl]] (.inr a72.2)))
    (fun (t76 : (List Int)) => .skip 1 <| .loop (.one (List Int)) [.keep [1, 3, 4, 6], .cut [0, 1] [] [puRow 1 0 1 t76 (Go.AM.eI .u64) fun _ => rfl]] (fun (a : (Prod Int (List Int))) => ⟨[.junk, (.ptr 0 0 0 0), .junk, .sl 1 0 1 0 a.2.length, (.sc (.int .i64 a62.1)), .junk, .sc (.int .i64 a.1)] ++ List.replicate 41 .junk, [.row 0 19 [eFabric x1], .row 0 1 (a.2.map (eI .u64))], []⟩)
    (fun (t : (List Int)) => (.exit 4, ⟨[.junk, (.ptr 0 0 0 0), .junk, .sl 1 0 1 0 t.length, (.sc (.int .i64 a62.1))] ++ List.replicate 43 .junk, [.row 0 19 [eFabric x1], .row 0 1 (t.map (eI .u64))], []⟩)) ((0 : Int), t76)
    (fun (a85 : (Prod Int (List Int))) => .skip 3 <| .op (lenO x1.Tenants Go.L.eTenant) fun _ => .skip 1 <| .br 37 (decide (a85.1 < (((List.length x1.Tenants) : Nat) : Int))) (.skip 5 <| .call c_tenant_TenantRD (x1, a62.1, a85.1) fun (r86 : Int) => .skip 1 <| .op (appO (List.length a85.2) a85.2 [r86] (eI .u64) 1 8 1 0 3 [2]) fun _ => .skip 4 <| .done [.keep [1, 3, 4, 6], .cut [0, 1] [] [puRow 1 1 1 (a85.2 ++ [r86]) (Go.AM.eI .u64) fun _ => rfl]] (.inl ((Go.IntKind.wrap .i64 (a85.1 + (1 : Int))), (a85.2 ++ [r86])))) (.skip 1 <| .done [.keep [1, 3, 4], .cut [0, 1] [] [puRow 1 0 1 a85.2 (Go.AM.eI .u64) fun _ => rfl]] (.inr a85.2)))
    (fun (t89 : (List Int)) => .skip 3 <| .done [.keep [1, 3, 4], .cut [0, 1] [] [puRow 1 0 1 t89 (Go.AM.eI .u64) fun _ => rfl]] (.inl ((Go.IntKind.wrap .i64 (a62.1 + (1 : Int))), t89))))) (.skip 1 <| .done [.keep [3], .cut [0, 1] [] [puRow 1 0 1 a62.2 (Go.AM.eI .u64) fun _ => rfl]] (.inr a62.2)))
    (fun (t92 : (List Int)) => .skip 2 <| .done [.frz (fzRow (.s 2) 1 0 1 (List.length t92) t92 (Go.AM.eI .u64) fun _ => rfl)] t92)
noncomputable def c_law22_rds : Ctr prog := Ctr.of cfg 10 36 (Go.L.Fabric) (fun x => [.agg (eFabric x)]) (.one (List Int)) (fun r => .ret (.lst (r.map (eI .u64)))) (fun x => g_law22_rds x) (fun x => by kernel_rfl)

/- leafmesh/leafmeshlaw22.distinct -/
noncomputable def g_law22_distinct (x1 : (List Int)) : G prog (Sh.El (.one Bool)) :=
  .skip 2 <| .loop (.two (.one Unit) (.one Unit)) [.keep [0, 3]] (fun (a : Int) => ⟨[(.lst (List.map (Go.AM.eI .u64) x1)), .junk, .junk, .sc (.int .i64 a)] ++ List.replicate 26 .junk, [], []⟩)
    (Sum.elim (fun (_ : Unit) => (.ret, ⟨[.junk, .junk, (.sc (.bool false))] ++ List.replicate 27 .junk, [], []⟩)) (fun (_ : Unit) => (.exit 0, ⟨List.replicate 30 .junk, [], []⟩))) (0 : Int)
    (fun (a2 : Int) => .skip 2 <| .op (lenO x1 (Go.AM.eI .u64)) fun _ => .skip 1 <| .br 8 (decide (a2 < (((List.length x1) : Nat) : Int))) (.skip 2 <| .loop (.two (.one Unit) (.one Unit)) [.keep [0, 3, 4]] (fun (a : Int) => ⟨[(.lst (List.map (Go.AM.eI .u64) x1)), .junk, .junk, (.sc (.int .i64 a2)), .sc (.int .i64 a)] ++ List.replicate 25 .junk, [], []⟩)
    (Sum.elim (fun (_ : Unit) => (.ret, ⟨[.junk, .junk, (.sc (.bool false))] ++ List.replicate 27 .junk, [], []⟩)) (fun (_ : Unit) => (.exit 2, ⟨[(.lst (List.map (Go.AM.eI .u64) x1)), .junk, .junk, (.sc (.int .i64 a2))] ++ List.replicate 26 .junk, [], []⟩))) (0 : Int)
    (fun (a3 : Int) => .skip 3 <| .br 13 (decide (a3 < a2)) (.skip 3 <| .op (idxO x1 (Go.AM.eI .u64) 1 a2) fun x4 => .skip 3 <| .op (idxO x1 (Go.AM.eI .u64) 1 a3) fun x5 => .skip 2 <| .br 24 (x4 == x5) (.skip 2 <| .done [.keep [2]] (.inr (.inl ()))) (.skip 4 <| .done [.keep [0, 3, 4]] (.inl (Go.IntKind.wrap .i64 (a3 + (1 : Int)))))) (.skip 1 <| .done [.keep [0, 3]] (.inr (.inr ()))))
    (Sum.elim (fun _ => .done [.keep [2]] (.inr (.inl ()))) (fun _ => .skip 2 <| .op (idxO x1 (Go.AM.eI .u64) 1 a2) fun x12 => .skip 2 <| .br 29 (x12 == (0 : Int)) (.skip 2 <| .done [.keep [2]] (.inr (.inl ()))) (.skip 4 <| .done [.keep [0, 3]] (.inl (Go.IntKind.wrap .i64 (a2 + (1 : Int)))))))) (.skip 1 <| .done [.keep []] (.inr (.inr ()))))
    (Sum.elim (fun _ => .done [] false) (fun _ => .skip 1 <| .done [] true))
noncomputable def c_law22_distinct : Ctr prog := Ctr.of cfg 10 35 ((List Int)) (fun x => [.lst (x.map (eI .u64))]) (.one Bool) (fun r => .ret (.sc (.bool r))) (fun x => g_law22_distinct x) (fun x => by kernel_rfl)

/- leafmesh/leafmeshlaw22.TenantApart -/
noncomputable def g_law22_TenantApart (x1 : (List Int)) : G prog (Sh.El (.one Bool)) :=
  .skip 1 <| .call c_law22_TenantKnown () fun (r2 : Bool) => .skip 2 <| .call c_kit_Fabric x1 fun (r3 : Go.L.Fabric) => .skip 3 <| .call c_tenant_Check r3 fun (r4 : (Prod Int (Prod ByteArray Int))) => .skip 9 <| .br 33 (r4.1 != (0 : Int)) (.skip 2 <| .done [] false) (.skip 2 <| .loop (.two (.one Unit) (.one Unit)) [.keep [3, 4, 8]] (fun (a : Int) => ⟨[.junk, .junk, .junk, (.sc (.bool r2)), (.ptr 0 0 0 0), .junk, .junk, .junk, .sc (.int .i64 a)] ++ List.replicate 176 .junk, [.row 0 19 [eFabric r3]], []⟩)
    (Sum.elim (fun (_ : Unit) => (.ret, ⟨[.junk, .junk, (.sc (.bool false))] ++ List.replicate 182 .junk, [.row 0 19 [eFabric r3]], []⟩)) (fun (_ : Unit) => (.exit 0, ⟨[.junk, .junk, .junk, (.sc (.bool r2)), (.ptr 0 0 0 0)] ++ List.replicate 180 .junk, [.row 0 19 [eFabric r3]], []⟩))) (0 : Int)
    (fun (a6 : Int) => .skip 3 <| .op (lenO r3.BDs Go.L.eBD) fun _ => .skip 1 <| .br 38 (decide (a6 < (((List.length r3.BDs) : Nat) : Int))) (.skip 5 <| .op (idxO r3.BDs Go.L.eBD 6 a6) fun x7 => .skip 2 <| .call c_tenant_BDOf (r3, x7.VNI) fun (r8 : (Prod Int Bool)) => .skip 9 <| .op (idxO r3.BDs Go.L.eBD 6 a6) fun x9 => .skip 2 <| .call c_tenant_DomainOf (r3, x9.Target) fun (r10 : (Prod Int Bool)) => .skip 9 <| .op (idxO r3.BDs Go.L.eBD 6 a6) fun x11 => .skip 2 <| .call c_tenant_TenantOf (r3, x11.VNI) fun (r12 : (Prod Int Bool)) => .skip 9 <| .br 77 (r8.1 != a6) (.skip 17 <| .done [.keep [2]] (.inr (.inl ()))) (.skip 4 <| .br 81 (!r8.2) (.skip 13 <| .done [.keep [2]] (.inr (.inl ()))) (.skip 5 <| .br 86 (r10.1 != a6) (.skip 8 <| .done [.keep [2]] (.inr (.inl ()))) (.skip 4 <| .br 90 (!r10.2) (.skip 4 <| .done [.keep [2]] (.inr (.inl ()))) (.skip 2 <| .br 92 r12.2 (.skip 2 <| .done [.keep [2]] (.inr (.inl ()))) (.skip 4 <| .done [.keep [3, 4, 8]] (.inl (Go.IntKind.wrap .i64 (a6 + (1 : Int)))))))))) (.skip 1 <| .done [.keep [3, 4]] (.inr (.inr ()))))
    (Sum.elim (fun _ => .done [] false) (fun _ => .skip 1 <| .loop (.two (.one Unit) (.one Unit)) [.keep [3, 4, 15]] (fun (a : Int) => ⟨[.junk, .junk, .junk, (.sc (.bool r2)), (.ptr 0 0 0 0)] ++ List.replicate 10 .junk ++ [.sc (.int .i64 a)] ++ List.replicate 169 .junk, [.row 0 19 [eFabric r3]], []⟩)
    (Sum.elim (fun (_ : Unit) => (.ret, ⟨[.junk, .junk, (.sc (.bool false))] ++ List.replicate 182 .junk, [.row 0 19 [eFabric r3]], []⟩)) (fun (_ : Unit) => (.exit 2, ⟨[.junk, .junk, .junk, (.sc (.bool r2)), (.ptr 0 0 0 0)] ++ List.replicate 180 .junk, [.row 0 19 [eFabric r3]], []⟩))) (0 : Int)
    (fun (a23 : Int) => .skip 3 <| .op (lenO r3.Tenants Go.L.eTenant) fun _ => .skip 1 <| .br 97 (decide (a23 < (((List.length r3.Tenants) : Nat) : Int))) (.skip 5 <| .op (idxO r3.Tenants Go.L.eTenant 2 a23) fun x24 => .skip 2 <| .call c_tenant_TenantOf (r3, x24.VNI) fun (r25 : (Prod Int Bool)) => .skip 9 <| .op (idxO r3.Tenants Go.L.eTenant 2 a23) fun x26 => .skip 2 <| .call c_tenant_RouterOf (r3, x26.Target) fun (r27 : (Prod Int Bool)) => .skip 9 <| .br 125 (r25.1 != a23) (.skip 14 <| .done [.keep [2]] (.inr (.inl ()))) (.skip 4 <| .br 129 (!r25.2) (.skip 10 <| .done [.keep [2]] (.inr (.inl ()))) (.skip 5 <| .br 134 (r27.1 != a23) (.skip 5 <| .done [.keep [2]] (.inr (.inl ()))) (.skip 3 <| .br 137 (!r27.2) (.skip 2 <| .done [.keep [2]] (.inr (.inl ()))) (.skip 4 <| .done [.keep [3, 4, 15]] (.inl (Go.IntKind.wrap .i64 (a23 + (1 : Int))))))))) (.skip 1 <| .done [.keep [3, 4]] (.inr (.inr ()))))
    (Sum.elim (fun _ => .done [] false) (fun _ => .skip 1 <| .loop (.two (.one Unit) (.one Unit)) [.keep [3, 4, 20]] (fun (a : Int) => ⟨[.junk, .junk, .junk, (.sc (.bool r2)), (.ptr 0 0 0 0)] ++ List.replicate 15 .junk ++ [.sc (.int .i64 a)] ++ List.replicate 164 .junk, [.row 0 19 [eFabric r3]], []⟩)
    (Sum.elim (fun (_ : Unit) => (.ret, ⟨[.junk, .junk, (.sc (.bool false))] ++ List.replicate 182 .junk, [.row 0 19 [eFabric r3]], []⟩)) (fun (_ : Unit) => (.exit 4, ⟨[.junk, .junk, .junk, (.sc (.bool r2)), (.ptr 0 0 0 0)] ++ List.replicate 180 .junk, [.row 0 19 [eFabric r3]], []⟩))) (0 : Int)
    (fun (a37 : Int) => .skip 3 <| .op (lenO r3.Segments Go.L.eSegment) fun _ => .skip 1 <| .br 142 (decide (a37 < (((List.length r3.Segments) : Nat) : Int))) (.skip 4 <| .call c_tenant_ESI (r3, a37) fun (r38 : (Go.AM.V10 Int)) => .call c_tenant_SegmentOf (r3, r38) fun (r39 : (Prod Int Bool)) => .skip 9 <| .op (idxO r3.Segments Go.L.eSegment 2 a37) fun x40 => .skip 2 <| .op (lenO x40.Leaves (Go.AM.eI .i64)) fun _ => .skip 3 <| .br 163 (!(r39.2 == (decide ((((List.length x40.Leaves) : Nat) : Int) > (1 : Int))))) (.skip 17 <| .done [.keep [2]] (.inr (.inl ()))) (.skip 2 <| .br 165 r39.2 (.skip 6 <| .br 171 (r39.1 != a37) (.skip 9 <| .done [.keep [2]] (.inr (.inl ()))) (.skip 2 <| .call c_tenant_Label (r3, a37) fun (r43 : Int) => .skip 4 <| .br 178 (!((r43 != (0 : Int)) == r39.2)) (.skip 2 <| .done [.keep [2]] (.inr (.inl ()))) (.skip 4 <| .done [.keep [3, 4, 20]] (.inl (Go.IntKind.wrap .i64 (a37 + (1 : Int))))))) (.skip 8 <| .call c_tenant_Label (r3, a37) fun (r46 : Int) => .skip 4 <| .br 178 (!((r46 != (0 : Int)) == r39.2)) (.skip 2 <| .done [.keep [2]] (.inr (.inl ()))) (.skip 4 <| .done [.keep [3, 4, 20]] (.inl (Go.IntKind.wrap .i64 (a37 + (1 : Int)))))))) (.skip 1 <| .done [.keep [3, 4]] (.inr (.inr ()))))
    (Sum.elim (fun _ => .done [] false) (fun _ => .skip 2 <| .br 180 r2 (.skip 1 <| .call c_law22_rds r3 fun (r53 : (List Int)) => .call c_law22_distinct r53 fun (r54 : Bool) => .skip 2 <| .done [] r54) (.skip 5 <| .done [] false))))))))
noncomputable def c_law22_TenantApart : Ctr prog := Ctr.of cfg 10 7 ((List Int)) (fun x => [.lst (x.map (eI .i64))]) (.one Bool) (fun r => .ret (.sc (.bool r))) (fun x => g_law22_TenantApart x) (fun x => by kernel_rfl)

end Go.L
