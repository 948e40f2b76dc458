/- What the functions compute, each told by a guide that the kernel checks against the program. No conditions. -/
import Derived.Test.YtomlhceogkfnlaaGreatWb
namespace Go.L
open Go.AM
set_option maxRecDepth 100000
set_option linter.unusedVariables false
set_option linter.unusedSimpArgs false
/- leafmesh/leafmeshkit.Vast -/
noncomputable def g_kit_Vast (x1 : Go.L.Fabric) : G prog (Sh.El (.one Bool)) :=
  .skip 4 <| .op (lenO x1.Links Go.L.eLink) fun _ => .skip 2 <| .br 8 (decide ((((List.length x1.Links) : Nat) : Int) > (40 : Int))) (.skip 31 <| .done [] true) (.skip 2 <| .op (lenO x1.Tenants Go.L.eTenant) fun _ => .skip 3 <| .br 14 (decide ((((List.length x1.Tenants) : Nat) : Int) > (40 : Int))) (.skip 25 <| .done [] true) (.skip 2 <| .op (lenO x1.BDs Go.L.eBD) fun _ => .skip 3 <| .br 20 (decide ((((List.length x1.BDs) : Nat) : Int) > (40 : Int))) (.skip 19 <| .done [] true) (.skip 2 <| .op (lenO x1.Segments Go.L.eSegment) fun _ => .skip 3 <| .br 26 (decide ((((List.length x1.Segments) : Nat) : Int) > (40 : Int))) (.skip 13 <| .done [] true) (.skip 2 <| .op (lenO x1.Hosts Go.L.eHost) fun _ => .skip 3 <| .br 32 (decide ((((List.length x1.Hosts) : Nat) : Int) > (40 : Int))) (.skip 7 <| .done [] true) (.skip 2 <| .op (lenO x1.Leaks Go.L.eLeak) fun _ => .skip 2 <| .br 37 (decide ((((List.length x1.Leaks) : Nat) : Int) > (40 : Int))) (.skip 2 <| .done [] true) (.skip 2 <| .loop (.two (.one Unit) (.one Unit)) [.keep [1, 3]] (fun (a : Int) => ⟨[.junk, (.ptr 0 0 0 0), .junk, .sc (.int .i64 a)] ++ List.replicate 59 .junk, [.row 0 19 [eFabric x1]], []⟩)
    (Sum.elim (fun (_ : Unit) => (.ret, ⟨[.junk, .junk, (.sc (.bool true))] ++ List.replicate 60 .junk, [.row 0 19 [eFabric x1]], []⟩)) (fun (_ : Unit) => (.exit 0, ⟨List.replicate 63 .junk, [.row 0 19 [eFabric x1]], []⟩))) (0 : Int)
    (fun (a8 : Int) => .skip 3 <| .op (lenO x1.Segments Go.L.eSegment) fun _ => .skip 1 <| .br 42 (decide (a8 < (((List.length x1.Segments) : Nat) : Int))) (.skip 4 <| .op (idxO x1.Segments Go.L.eSegment 2 a8) fun x9 => .skip 2 <| .op (lenO x9.Leaves (Go.AM.eI .i64)) fun _ => .skip 2 <| .br 53 (decide ((((List.length x9.Leaves) : Nat) : Int) > (20 : Int))) (.skip 11 <| .done [.keep [2]] (.inr (.inl ()))) (.skip 3 <| .op (idxO x1.Segments Go.L.eSegment 2 a8) fun x11 => .skip 2 <| .op (lenO x11.BDs (Go.AM.eI .i64)) fun _ => .skip 2 <| .br 62 (decide ((((List.length x11.BDs) : Nat) : Int) > (20 : Int))) (.skip 2 <| .done [.keep [2]] (.inr (.inl ()))) (.skip 4 <| .done [.keep [1, 3]] (.inl (Go.IntKind.wrap .i64 (a8 + (1 : Int))))))) (.skip 1 <| .done [.keep []] (.inr (.inr ()))))
    (Sum.elim (fun _ => .done [] true) (fun _ => .skip 1 <| .done [] false))))))))
noncomputable def c_kit_Vast : Ctr prog := Ctr.of cfg 10 9 (Go.L.Fabric) (fun x => [.agg (eFabric x)]) (.one Bool) (fun r => .ret (.sc (.bool r))) (fun x => g_kit_Vast x) (fun x => by kernel_rfl)

/- leafmesh/leafmeshlaw22.example -/
noncomputable def g_law22_example  : G prog (Sh.El (.one Go.L.Fabric)) :=
  .skip 22 <| .done [] (Go.L.Fabric.mk (2 : Int) (1 : Int) [(Go.L.Link.mk (0 : Int) (2 : Int) (1 : Int)), (Go.L.Link.mk (1 : Int) (2 : Int) (1 : Int))] [(Go.L.Tenant.mk (100 : Int) (1 : Int))] [(Go.L.BD.mk (0 : Int) (10 : Int) (2 : Int) (Go.L.Prefix.mk (167772160 : Int) (24 : Int)) (167772161 : Int)), (Go.L.BD.mk (0 : Int) (20 : Int) (3 : Int) (Go.L.Prefix.mk (0 : Int) (0 : Int)) (0 : Int))] [(Go.L.Segment.mk [(0 : Int)] [(0 : Int), (1 : Int)]), (Go.L.Segment.mk [(0 : Int), (1 : Int)] [(0 : Int)])] [(Go.L.Host.mk (2199023299073 : Int) (167772165 : Int) (0 : Int) (1 : Int))] [] (0 : Int) (0 : Int) (0 : Int) false false (Go.L.Timers.mk (3 : Int) (9 : Int) (100 : Int) (20 : Int) (5 : Int) (50 : Int)))
noncomputable def c_law22_example : Ctr prog := Ctr.of cfg 10 55 (Unit) (fun x => []) (.one Go.L.Fabric) (fun r => .ret (.agg (eFabric r))) (fun x => g_law22_example ) (fun x => by kernel_rfl)

/- leafmesh/tenant.valid -/
noncomputable def g_tenant_valid (x1 : Go.L.Fabric) : G prog (Sh.El (.one Bool)) :=
  .skip 3 <| .call c_tenant_Check x1 fun (r2 : (Prod Int (Prod ByteArray Int))) => .skip 10 <| .done [] (r2.1 == (0 : Int))
noncomputable def c_tenant_valid : Ctr prog := Ctr.of cfg 10 58 (Go.L.Fabric) (fun x => [.agg (eFabric x)]) (.one Bool) (fun r => .ret (.sc (.bool r))) (fun x => g_tenant_valid x) (fun x => by kernel_rfl)

/- leafmesh/tenant.BDOf$1 -/
noncomputable def g_tenant_BDOf_1 (x1 : Go.L.BD) (x2 : Int) : G prog (Sh.El (.one Bool)) :=
  .skip 7 <| .done [] (x1.VNI == x2)
noncomputable def c_tenant_BDOf_1 : Ctr prog := Ctr.of cfg 10 117 (Go.L.BD × Int) (fun x => [.agg (eBD x.1), .cptr [.sc (.int .u32 x.2)] 0]) (.one Bool) (fun r => .ret (.sc (.bool r))) (fun x => g_tenant_BDOf_1 x.1 x.2) (fun x => by kernel_rfl)

/- slices.IndexFunc[[]leafmesh/api.BD,leafmesh/api.BD] -/
noncomputable def g_slices_IndexFunc_BD_BD_2 (x1 : (List Go.L.BD)) (x2 : Int) : G prog (Sh.El (.one Int)) :=
  .skip 2 <| .op (lenO x1 Go.L.eBD) fun _ => .skip 1 <| .loop (.two (.one Int) (.one Unit)) [.keep [0, 1, 7, 8]] (fun (a : Int) => ⟨[(.lst (List.map Go.L.eBD x1)), (.fn (.func 117) [] [(.cptr [(.sc (.int .u32 x2))] 0)])] ++ List.replicate 5 .junk ++ [(.sc (.int .i64 (((List.length x1) : Nat) : Int))), .sc (.int .i64 a)] ++ List.replicate 10 .junk, [], []⟩)
    (Sum.elim (fun (t : Int) => (.ret, ⟨List.replicate 4 .junk ++ [.sc (.int .i64 t)] ++ List.replicate 14 .junk, [], []⟩)) (fun (_ : Unit) => (.exit 0, ⟨List.replicate 19 .junk, [], []⟩))) (0 : Int)
    (fun (a3 : Int) => .skip 1 <| .br 9 (decide (a3 < (((List.length x1) : Nat) : Int))) (.skip 6 <| .op (idxO x1 Go.L.eBD 6 a3) fun x4 => .skip 1 <| .call c_tenant_BDOf_1 (x4, x2) fun (r5 : Bool) => .br 16 r5 (.skip 3 <| .done [.keep [4]] (.inr (.inl a3))) (.skip 3 <| .done [.keep [0, 1, 7, 8]] (.inl (Go.IntKind.wrap .i64 (a3 + (1 : Int)))))) (.skip 1 <| .done [.keep []] (.inr (.inr ()))))
    (Sum.elim (fun (t9 : Int) => .done [] t9) (fun _ => .skip 1 <| .done [] (-(1 : Int))))
noncomputable def c_slices_IndexFunc_BD_BD_2 : Ctr prog := Ctr.of cfg 10 156 ((List Go.L.BD) × Int) (fun x => [.lst (x.1.map eBD), .fn (.func 117) [] [.cptr [.sc (.int .u32 x.2)] 0]]) (.one Int) (fun r => .ret (.sc (.int .i64 r))) (fun x => g_slices_IndexFunc_BD_BD_2 x.1 x.2) (fun x => by kernel_rfl)

/- leafmesh/tenant.find[leafmesh/api.BD] -/
noncomputable def g_tenant_find_BD (x1 : (List Go.L.BD)) (x2 : Int) : G prog (Sh.El (.one (Prod Int Bool))) :=
  .skip 4 <| .call c_slices_IndexFunc_BD_BD_2 (x1, x2) fun (r3 : Int) => .skip 3 <| .br 11 (decide (r3 < (0 : Int))) (.skip 3 <| .done [] ((0 : Int), false)) (.skip 4 <| .done [] (r3, true))
noncomputable def c_tenant_find_BD : Ctr prog := Ctr.of cfg 10 116 ((List Go.L.BD) × Int) (fun x => [.lst (x.1.map eBD), .fn (.func 117) [] [.cptr [.sc (.int .u32 x.2)] 0]]) (.one (Prod Int Bool)) (fun r => .ret (.tup [.sc (.int .i64 r.1), .sc (.bool r.2)])) (fun x => g_tenant_find_BD x.1 x.2) (fun x => by kernel_rfl)

/- leafmesh/tenant.BDOf -/
noncomputable def g_tenant_BDOf (x1 : Go.L.Fabric) (x2 : Int) : G prog (Sh.El (.one (Prod Int Bool))) :=
  .skip 5 <| .call c_tenant_valid x1 fun (r3 : Bool) => .skip 1 <| .br 8 (!r3) (.skip 3 <| .done [] ((0 : Int), false)) (.skip 4 <| .call c_tenant_find_BD (x1.BDs, x2) fun (r5 : (Prod Int Bool)) => .skip 4 <| .done [] (r5.1, r5.2))
noncomputable def c_tenant_BDOf : Ctr prog := Ctr.of cfg 10 56 (Go.L.Fabric × Int) (fun x => [.agg (eFabric x.1), .sc (.int .u32 x.2)]) (.one (Prod Int Bool)) (fun r => .ret (.tup [.sc (.int .i64 r.1), .sc (.bool r.2)])) (fun x => g_tenant_BDOf x.1 x.2) (fun x => by kernel_rfl)

/- leafmesh/leafmeshlaw22.rejects -/
noncomputable def g_law22_rejects (x1 : Go.L.Fabric) (x2 : Int) (x3 : ByteArray) (x4 : Int) : G prog (Sh.El (.one Bool)) :=
  .skip 3 <| .call c_tenant_Check x1 fun (r5 : (Prod Int (Prod ByteArray Int))) => .skip 11 <| .br 21 (r5.1 == x2) (.skip 5 <| .br 26 ((ByteArray.toList r5.2.1) == (ByteArray.toList x3)) (.skip 5 <| .done [] (r5.2.2 == x4)) (.skip 5 <| .done [] false)) (.skip 10 <| .done [] false)
noncomputable def c_law22_rejects : Ctr prog := Ctr.of cfg 10 57 (Go.L.Fabric × Int × ByteArray × Int) (fun x => [.agg (eFabric x.1), .sc (.int .i64 x.2.1), .sc (.string x.2.2.1), .sc (.int .i64 x.2.2.2)]) (.one Bool) (fun r => .ret (.sc (.bool r))) (fun x => g_law22_rejects x.1 x.2.1 x.2.2.1 x.2.2.2) (fun x => by kernel_rfl)

/- leafmesh/tenant.At -/
noncomputable def g_tenant_At (x1 : Go.L.Fabric) (x2 : Int) : G prog (Sh.El (.one (List Int))) :=
  .skip 3 <| .call c_tenant_valid x1 fun (r3 : Bool) => .skip 2 <| .br 11 (!r3) (.skip 8 <| .done [] []) (.skip 3 <| .call c_tenant_within (x2, x1.Leaves) fun (r5 : Bool) => .skip 2 <| .br 17 (!r5) (.skip 2 <| .done [] []) (.skip 4 <| .op (lenO x1.Segments Go.L.eSegment) fun _ => .skip 1 <| .loop (.one (List Int)) [.keep [1, 5, 19, 20, 21], .cut [] [] [], .own (.s 5) 1] (fun (a : (Prod Int (List Int))) => ⟨[.junk, (.sc (.int .i64 x2)), .junk, .junk, .junk, .sl 0 0 1 0 a.2.length] ++ List.replicate 13 .junk ++ [(.lst (List.map Go.L.eSegment x1.Segments)), (.sc (.int .i64 (((List.length x1.Segments) : Nat) : Int))), .sc (.int .i64 a.1)] ++ List.replicate 14 .junk, [.row 0 1 (a.2.map (eI .i64))], []⟩)
    (fun (t : (List Int)) => (.exit 0, ⟨List.replicate 5 .junk ++ [.sl 0 0 1 0 t.length] ++ List.replicate 30 .junk, [.row 0 1 (t.map (eI .i64))], []⟩)) ((0 : Int), [])
    (fun (a19 : (Prod Int (List Int))) => .skip 1 <| .br 22 (decide (a19.1 < (((List.length x1.Segments) : Nat) : Int))) (.skip 2 <| .op (idxO x1.Segments Go.L.eSegment 2 a19.1) fun x20 => .skip 7 <| .call c_slices_Contains_int_int (x20.Leaves, x2) fun (r21 : Bool) => .br 29 r21 (.skip 4 <| .op (appO (List.length a19.2) a19.2 [a19.1] (eI .i64) 1 8 0 0 3 [2]) fun _ => .skip 3 <| .done [.keep [1, 5, 19, 20, 21], .cut [0] [] [puRow 0 1 1 (a19.2 ++ [a19.1]) (Go.AM.eI .i64) fun _ => rfl]] (.inl ((Go.IntKind.wrap .i64 (a19.1 + (1 : Int))), (a19.2 ++ [a19.1])))) (.skip 3 <| .done [.keep [1, 5, 19, 20, 21], .cut [0] [] [puRow 0 0 1 a19.2 (Go.AM.eI .i64) fun _ => rfl]] (.inl ((Go.IntKind.wrap .i64 (a19.1 + (1 : Int))), a19.2)))) (.skip 1 <| .done [.keep [5], .cut [0] [] [puRow 0 0 1 a19.2 (Go.AM.eI .i64) fun _ => rfl]] (.inr a19.2)))
    (fun (t25 : (List Int)) => .skip 2 <| .done [.frz (fzRow (.s 4) 0 0 1 (List.length t25) t25 (Go.AM.eI .i64) fun _ => rfl)] t25)))
noncomputable def c_tenant_At : Ctr prog := Ctr.of cfg 10 14 (Go.L.Fabric × Int) (fun x => [.agg (eFabric x.1), .sc (.int .i64 x.2)]) (.one (List Int)) (fun r => .ret (.lst (r.map (eI .i64)))) (fun x => g_tenant_At x.1 x.2) (fun x => by kernel_rfl)

/- leafmesh/leafmeshkit.SameInts -/
noncomputable def g_kit_SameInts (x1 : (List Int)) (x2 : (List Int)) : G prog (Sh.El (.one Bool)) :=
  .skip 2 <| .op (lenO x1 (Go.AM.eI .i64)) fun _ => .skip 1 <| .op (lenO x2 (Go.AM.eI .i64)) fun _ => .skip 3 <| .loop (.one Bool) [.keep [0, 1, 5, 6]] (fun (a : (Prod Bool Int)) => ⟨[(.lst (List.map (Go.AM.eI .i64) x1)), (.lst (List.map (Go.AM.eI .i64) x2)), .junk, .junk, .junk, .sc (.bool a.1), .sc (.int .i64 a.2)] ++ List.replicate 24 .junk, [], []⟩)
    (fun (t : Bool) => (.exit 0, ⟨List.replicate 5 .junk ++ [.sc (.bool t)] ++ List.replicate 25 .junk, [], []⟩)) (((((List.length x1) : Nat) : Int) == (((List.length x2) : Nat) : Int)), (0 : Int))
    (fun (a3 : (Prod Bool Int)) => .skip 2 <| .br 13 a3.1 (.skip 2 <| .op (lenO x1 (Go.AM.eI .i64)) fun _ => .skip 2 <| .br 18 (decide (a3.2 < (((List.length x1) : Nat) : Int))) (.skip 3 <| .op (idxO x1 (Go.AM.eI .i64) 1 a3.2) fun x4 => .skip 3 <| .op (idxO x2 (Go.AM.eI .i64) 1 a3.2) fun x5 => .skip 6 <| .done [.keep [0, 1, 5, 6]] (.inl ((x4 == x5), (Go.IntKind.wrap .i64 (a3.2 + (1 : Int)))))) (.skip 1 <| .done [.keep [5]] (.inr a3.1))) (.skip 6 <| .done [.keep [5]] (.inr a3.1)))
    (fun (t9 : Bool) => .skip 2 <| .done [] t9)
noncomputable def c_kit_SameInts : Ctr prog := Ctr.of cfg 10 13 ((List Int) × (List Int)) (fun x => [.lst (x.1.map (eI .i64)), .lst (x.2.map (eI .i64))]) (.one Bool) (fun r => .ret (.sc (.bool r))) (fun x => g_kit_SameInts x.1 x.2) (fun x => by kernel_rfl)

/- leafmesh/tenant.multihomed -/
noncomputable def g_tenant_multihomed (x1 : Go.L.Fabric) (x2 : Int) : G prog (Sh.El (.one Bool)) :=
  .skip 5 <| .op (lenO x1.Segments Go.L.eSegment) fun _ => .call c_tenant_within (x2, (((List.length x1.Segments) : Nat) : Int)) fun (r3 : Bool) => .skip 1 <| .br 10 r3 (.skip 3 <| .op (idxO x1.Segments Go.L.eSegment 2 x2) fun x4 => .skip 2 <| .op (lenO x4.Leaves (Go.AM.eI .i64)) fun _ => .skip 3 <| .done [] (decide ((((List.length x4.Leaves) : Nat) : Int) > (1 : Int)))) (.skip 10 <| .done [] false)
noncomputable def c_tenant_multihomed : Ctr prog := Ctr.of cfg 10 66 (Go.L.Fabric × Int) (fun x => [.agg (eFabric x.1), .sc (.int .i64 x.2)]) (.one Bool) (fun r => .ret (.sc (.bool r))) (fun x => g_tenant_multihomed x.1 x.2) (fun x => by kernel_rfl)

/- leafmesh/tenant.Label -/
noncomputable def g_tenant_Label (x1 : Go.L.Fabric) (x2 : Int) : G prog (Sh.El (.one Int)) :=
  .skip 3 <| .call c_tenant_valid x1 fun (r3 : Bool) => .skip 2 <| .br 8 (!r3) (.skip 7 <| .done [] (0 : Int)) (.skip 2 <| .call c_tenant_multihomed (x1, x2) fun (r5 : Bool) => .skip 2 <| .br 13 (!r5) (.skip 2 <| .done [] (0 : Int)) (.skip 5 <| .done [] (Go.IntKind.wrap .u32 ((Go.IntKind.wrap .u32 x2) + (1 : Int)))))
noncomputable def c_tenant_Label : Ctr prog := Ctr.of cfg 10 20 (Go.L.Fabric × Int) (fun x => [.agg (eFabric x.1), .sc (.int .i64 x.2)]) (.one Int) (fun r => .ret (.sc (.int .u32 r))) (fun x => g_tenant_Label x.1 x.2) (fun x => by kernel_rfl)

/- leafmesh/leafmeshlaw22.awake -/
noncomputable def g_law22_awake  : G prog (Sh.El (.one Bool)) :=
  .skip 1 <| .call c_law22_example () fun (r1 : Go.L.Fabric) => .skip 3 <| .call c_tenant_BDOf (r1, (20 : Int)) fun (r2 : (Prod Int Bool)) => .skip 6 <| .call c_law22_rejects (r1, (0 : Int), ⟨⟨[]⟩⟩, (0 : Int)) fun (r3 : Bool) => .skip 1 <| .br 12 r3 (.skip 1 <| .call c_tenant_At (r1, (0 : Int)) fun (r4 : (List Int)) => .skip 1 <| .call c_kit_SameInts (r4, [(0 : Int), (1 : Int)]) fun (r5 : Bool) => .skip 2 <| .br 18 r5 (.skip 1 <| .call c_tenant_Label (r1, (1 : Int)) fun (r6 : Int) => .skip 3 <| .br 23 (r6 == (2 : Int)) (.skip 4 <| .br 27 (r2.1 == (1 : Int)) (.skip 3 <| .done [] r2.2) (.skip 3 <| .done [] false)) (.skip 7 <| .done [] false)) (.skip 12 <| .done [] false)) (.skip 18 <| .done [] false)
noncomputable def c_law22_awake : Ctr prog := Ctr.of cfg 10 10 (Unit) (fun x => []) (.one Bool) (fun r => .ret (.sc (.bool r))) (fun x => g_law22_awake ) (fun x => by kernel_rfl)

/- leafmesh/addr.Loopback -/
noncomputable def g_addr_Loopback (x1 : Int) : G prog (Sh.El (.one (Prod Int Int))) :=
  .skip 5 <| .br 6 (decide (x1 < (0 : Int))) (.skip 6 <| .done [] ((0 : Int), (2 : Int))) (.skip 3 <| .br 9 (decide (x1 ≥ (32 : Int))) (.skip 3 <| .done [] ((0 : Int), (2 : Int))) (.skip 7 <| .done [] ((Go.IntKind.wrap .u32 ((Go.IntKind.wrap .u32 ((184483840 : Int) + (Go.IntKind.wrap .u32 x1))) + (1 : Int))), (0 : Int))))
noncomputable def c_addr_Loopback : Ctr prog := Ctr.of cfg 10 100 (Int) (fun x => [.sc (.int .i64 x)]) (.one (Prod Int Int)) (fun r => .ret (.tup [.sc (.int .u32 r.1), .sc (.int .i64 r.2)])) (fun x => g_addr_Loopback x) (fun x => by kernel_rfl)

/- leafmesh/tenant.loopback -/
noncomputable def g_tenant_loopback (x1 : Int) : G prog (Sh.El (.one Int)) :=
  .skip 2 <| .call c_addr_Loopback x1 fun (r2 : (Prod Int Int)) => .skip 7 <| .done [] r2.1
noncomputable def c_tenant_loopback : Ctr prog := Ctr.of cfg 10 60 (Int) (fun x => [.sc (.int .i64 x)]) (.one Int) (fun r => .ret (.sc (.int .u32 r))) (fun x => g_tenant_loopback x) (fun x => by kernel_rfl)

/- leafmesh/tenant.Loopback -/
noncomputable def g_tenant_Loopback (x1 : Go.L.Fabric) (x2 : Int) : G prog (Sh.El (.one Int)) :=
  .skip 3 <| .call c_tenant_valid x1 fun (r3 : Bool) => .skip 2 <| .br 8 (!r3) (.skip 11 <| .done [] (0 : Int)) (.skip 6 <| .call c_tenant_within (x2, (Go.IntKind.wrap .i64 (x1.Leaves + x1.Spines))) fun (r5 : Bool) => .skip 2 <| .br 17 (!r5) (.skip 2 <| .done [] (0 : Int)) (.skip 2 <| .call c_tenant_loopback x2 fun (r7 : Int) => .skip 1 <| .done [] r7))
noncomputable def c_tenant_Loopback : Ctr prog := Ctr.of cfg 10 11 (Go.L.Fabric × Int) (fun x => [.agg (eFabric x.1), .sc (.int .i64 x.2)]) (.one Int) (fun r => .ret (.sc (.int .u32 r))) (fun x => g_tenant_Loopback x.1 x.2) (fun x => by kernel_rfl)

/- leafmesh/leafmeshref22.valid -/
noncomputable def g_ref22_valid (x1 : Go.L.Fabric) : G prog (Sh.El (.one Bool)) :=
  .skip 3 <| .call c_ref22_Check x1 fun (r2 : (Prod Int (Prod ByteArray Int))) => .skip 10 <| .done [] (r2.1 == (0 : Int))
noncomputable def c_ref22_valid : Ctr prog := Ctr.of cfg 10 61 (Go.L.Fabric) (fun x => [.agg (eFabric x)]) (.one Bool) (fun r => .ret (.sc (.bool r))) (fun x => g_ref22_valid x) (fun x => by kernel_rfl)

/- leafmesh/leafmeshref01.Loopback -/
noncomputable def g_ref01_Loopback (x1 : Int) : G prog (Sh.El (.one (Prod Int Int))) :=
  .skip 5 <| .br 6 (decide (x1 < (0 : Int))) (.skip 6 <| .done [] ((0 : Int), (2 : Int))) (.skip 3 <| .br 9 (decide (x1 ≥ (32 : Int))) (.skip 3 <| .done [] ((0 : Int), (2 : Int))) (.skip 7 <| .done [] ((Go.IntKind.wrap .u32 ((Go.IntKind.wrap .u32 ((184483840 : Int) + (Go.IntKind.wrap .u32 x1))) + (1 : Int))), (0 : Int))))
noncomputable def c_ref01_Loopback : Ctr prog := Ctr.of cfg 10 63 (Int) (fun x => [.sc (.int .i64 x)]) (.one (Prod Int Int)) (fun r => .ret (.tup [.sc (.int .u32 r.1), .sc (.int .i64 r.2)])) (fun x => g_ref01_Loopback x) (fun x => by kernel_rfl)

/- leafmesh/leafmeshref22.Loopback -/
noncomputable def g_ref22_Loopback (x1 : Go.L.Fabric) (x2 : Int) : G prog (Sh.El (.one Int)) :=
  .skip 3 <| .call c_ref22_valid x1 fun (r3 : Bool) => .skip 2 <| .br 10 (!r3) (.skip 12 <| .done [] (0 : Int)) (.skip 7 <| .call c_ref22_within (x2, (0 : Int), (Go.IntKind.wrap .i64 ((Go.IntKind.wrap .i64 (x1.Leaves + x1.Spines)) - (1 : Int)))) fun (r5 : Bool) => .skip 2 <| .br 20 (!r5) (.skip 2 <| .done [] (0 : Int)) (.skip 2 <| .call c_ref01_Loopback x2 fun (r7 : (Prod Int Int)) => .skip 7 <| .done [] r7.1))
noncomputable def c_ref22_Loopback : Ctr prog := Ctr.of cfg 10 12 (Go.L.Fabric × Int) (fun x => [.agg (eFabric x.1), .sc (.int .i64 x.2)]) (.one Int) (fun r => .ret (.sc (.int .u32 r))) (fun x => g_ref22_Loopback x.1 x.2) (fun x => by kernel_rfl)

/- leafmesh/leafmeshref22.At -/
noncomputable def g_ref22_At (x1 : Go.L.Fabric) (x2 : Int) : G prog (Sh.El (.one (List Int))) :=
  .skip 4 <| .call c_ref22_valid x1 fun (r3 : Bool) => .skip 1 <| .br 9 (!r3) (.skip 3 <| .done [] []) (.skip 2 <| .loop (.one (List Int)) [.keep [1, 2, 5, 6], .cut [0] [] [], .own (.s 5) 1] (fun (a : (Prod Int (List Int))) => ⟨[.junk, (.sc (.int .i64 x2)), (.ptr 0 0 0 0), .junk, .junk, .sl 1 0 1 0 a.2.length, .sc (.int .i64 a.1)] ++ List.replicate 24 .junk, [.row 0 19 [eFabric x1], .row 0 1 (a.2.map (eI .i64))], []⟩)
    (fun (t : (List Int)) => (.exit 0, ⟨List.replicate 5 .junk ++ [.sl 1 0 1 0 t.length] ++ List.replicate 25 .junk, [.row 0 19 [eFabric x1], .row 0 1 (t.map (eI .i64))], []⟩)) ((0 : Int), [])
    (fun (a17 : (Prod Int (List Int))) => .skip 3 <| .op (lenO x1.Segments Go.L.eSegment) fun _ => .skip 1 <| .br 15 (decide (a17.1 < (((List.length x1.Segments) : Nat) : Int))) (.skip 4 <| .op (idxO x1.Segments Go.L.eSegment 2 a17.1) fun x18 => .skip 3 <| .call c_ref22_has (x18.Leaves, x2) fun (r19 : Bool) => .br 25 r19 (.skip 4 <| .op (appO (List.length a17.2) a17.2 [a17.1] (eI .i64) 1 8 1 0 3 [2]) fun _ => .skip 4 <| .done [.keep [1, 2, 5, 6], .cut [0, 1] [] [puRow 1 1 1 (a17.2 ++ [a17.1]) (Go.AM.eI .i64) fun _ => rfl]] (.inl ((Go.IntKind.wrap .i64 (a17.1 + (1 : Int))), (a17.2 ++ [a17.1])))) (.skip 4 <| .done [.keep [1, 2, 5, 6], .cut [0, 1] [] [puRow 1 0 1 a17.2 (Go.AM.eI .i64) fun _ => rfl]] (.inl ((Go.IntKind.wrap .i64 (a17.1 + (1 : Int))), a17.2)))) (.skip 1 <| .done [.keep [5], .cut [0, 1] [] [puRow 1 0 1 a17.2 (Go.AM.eI .i64) fun _ => rfl]] (.inr a17.2)))
    (fun (t23 : (List Int)) => .skip 2 <| .done [.frz (fzRow (.s 4) 1 0 1 (List.length t23) t23 (Go.AM.eI .i64) fun _ => rfl)] t23))
noncomputable def c_ref22_At : Ctr prog := Ctr.of cfg 10 15 (Go.L.Fabric × Int) (fun x => [.agg (eFabric x.1), .sc (.int .i64 x.2)]) (.one (List Int)) (fun r => .ret (.lst (r.map (eI .i64)))) (fun x => g_ref22_At x.1 x.2) (fun x => by kernel_rfl)

/- leafmesh/tenant.Multihomed -/
noncomputable def g_tenant_Multihomed (x1 : Go.L.Fabric) (x2 : Int) : G prog (Sh.El (.one Bool)) :=
  .skip 3 <| .call c_tenant_valid x1 fun (r3 : Bool) => .skip 1 <| .br 7 r3 (.skip 2 <| .call c_tenant_multihomed (x1, x2) fun (r4 : Bool) => .skip 2 <| .done [] r4) (.skip 5 <| .done [] false)
noncomputable def c_tenant_Multihomed : Ctr prog := Ctr.of cfg 10 16 (Go.L.Fabric × Int) (fun x => [.agg (eFabric x.1), .sc (.int .i64 x.2)]) (.one Bool) (fun r => .ret (.sc (.bool r))) (fun x => g_tenant_Multihomed x.1 x.2) (fun x => by kernel_rfl)

/- leafmesh/leafmeshref22.Multihomed -/
noncomputable def g_ref22_Multihomed (x1 : Go.L.Fabric) (x2 : Int) : G prog (Sh.El (.one Bool)) :=
  .skip 3 <| .call c_ref22_valid x1 fun (r3 : Bool) => .skip 1 <| .br 7 r3 (.skip 3 <| .op (lenO x1.Segments Go.L.eSegment) fun _ => .skip 1 <| .call c_ref22_within (x2, (0 : Int), (Go.IntKind.wrap .i64 ((((List.length x1.Segments) : Nat) : Int) - (1 : Int)))) fun (r4 : Bool) => .skip 2 <| .br 15 r4 (.skip 3 <| .op (idxO x1.Segments Go.L.eSegment 2 x2) fun x5 => .skip 2 <| .op (lenO x5.Leaves (Go.AM.eI .i64)) fun _ => .skip 3 <| .done [] (decide ((((List.length x5.Leaves) : Nat) : Int) > (1 : Int)))) (.skip 10 <| .done [] false)) (.skip 18 <| .done [] false)
noncomputable def c_ref22_Multihomed : Ctr prog := Ctr.of cfg 10 17 (Go.L.Fabric × Int) (fun x => [.agg (eFabric x.1), .sc (.int .i64 x.2)]) (.one Bool) (fun r => .ret (.sc (.bool r))) (fun x => g_ref22_Multihomed x.1 x.2) (fun x => by kernel_rfl)

/- leafmesh/addr.SegmentESI -/
noncomputable def g_addr_SegmentESI (x1 : Int) : G prog (Sh.El (.one (Prod (Go.AM.V10 Int) Int))) :=
  .skip 5 <| .br 6 (decide (x1 < (0 : Int))) (.skip 7 <| .done [] ((@Go.AM.V10.mk Int (0 : Int) (0 : Int) (0 : Int) (0 : Int) (0 : Int) (0 : Int) (0 : Int) (0 : Int) (0 : Int) (0 : Int)), (2 : Int))) (.skip 3 <| .br 9 (decide (x1 ≥ (64 : Int))) (.skip 4 <| .done [] ((@Go.AM.V10.mk Int (0 : Int) (0 : Int) (0 : Int) (0 : Int) (0 : Int) (0 : Int) (0 : Int) (0 : Int) (0 : Int) (0 : Int)), (2 : Int))) (.skip 7 <| .done [] ((@Go.AM.V10.mk Int (3 : Int) (0 : Int) (0 : Int) (0 : Int) (0 : Int) (0 : Int) (0 : Int) (0 : Int) (0 : Int) (Go.IntKind.wrap .u8 (Go.IntKind.wrap .i64 (x1 + (1 : Int))))), (0 : Int))))
noncomputable def c_addr_SegmentESI : Ctr prog := Ctr.of cfg 10 67 (Int) (fun x => [.sc (.int .i64 x)]) (.one (Prod (Go.AM.V10 Int) Int)) (fun r => .ret (.tup [.agg ((eV10 (cI .u8)) r.1), .sc (.int .i64 r.2)])) (fun x => g_addr_SegmentESI x) (fun x => by kernel_rfl)

/- leafmesh/tenant.ESI -/
noncomputable def g_tenant_ESI (x1 : Go.L.Fabric) (x2 : Int) : G prog (Sh.El (.one (Go.AM.V10 Int))) :=
  .skip 3 <| .call c_tenant_valid x1 fun (r3 : Bool) => .skip 2 <| .br 10 (!r3) (.skip 8 <| .done [] (@Go.AM.V10.mk Int (0 : Int) (0 : Int) (0 : Int) (0 : Int) (0 : Int) (0 : Int) (0 : Int) (0 : Int) (0 : Int) (0 : Int))) (.skip 2 <| .call c_tenant_multihomed (x1, x2) fun (r5 : Bool) => .skip 2 <| .br 15 (!r5) (.skip 3 <| .done [] (@Go.AM.V10.mk Int (0 : Int) (0 : Int) (0 : Int) (0 : Int) (0 : Int) (0 : Int) (0 : Int) (0 : Int) (0 : Int) (0 : Int))) (.skip 2 <| .call c_addr_SegmentESI x2 fun (r7 : (Prod (Go.AM.V10 Int) Int)) => .skip 8 <| .done [] r7.1))
noncomputable def c_tenant_ESI : Ctr prog := Ctr.of cfg 10 18 (Go.L.Fabric × Int) (fun x => [.agg (eFabric x.1), .sc (.int .i64 x.2)]) (.one (Go.AM.V10 Int)) (fun r => .ret (.agg ((eV10 (cI .u8)) r))) (fun x => g_tenant_ESI x.1 x.2) (fun x => by kernel_rfl)

/- leafmesh/leafmeshref01.SegmentESI -/
noncomputable def g_ref01_SegmentESI (x1 : Int) : G prog (Sh.El (.one (Prod (Go.AM.V10 Int) Int))) :=
  .skip 5 <| .br 6 (decide (x1 < (0 : Int))) (.skip 7 <| .done [] ((@Go.AM.V10.mk Int (0 : Int) (0 : Int) (0 : Int) (0 : Int) (0 : Int) (0 : Int) (0 : Int) (0 : Int) (0 : Int) (0 : Int)), (2 : Int))) (.skip 3 <| .br 9 (decide (x1 ≥ (64 : Int))) (.skip 4 <| .done [] ((@Go.AM.V10.mk Int (0 : Int) (0 : Int) (0 : Int) (0 : Int) (0 : Int) (0 : Int) (0 : Int) (0 : Int) (0 : Int) (0 : Int)), (2 : Int))) (.skip 7 <| .done [] ((@Go.AM.V10.mk Int (3 : Int) (0 : Int) (0 : Int) (0 : Int) (0 : Int) (0 : Int) (0 : Int) (0 : Int) (0 : Int) (Go.IntKind.wrap .u8 (Go.IntKind.wrap .i64 (x1 + (1 : Int))))), (0 : Int))))
noncomputable def c_ref01_SegmentESI : Ctr prog := Ctr.of cfg 10 68 (Int) (fun x => [.sc (.int .i64 x)]) (.one (Prod (Go.AM.V10 Int) Int)) (fun r => .ret (.tup [.agg ((eV10 (cI .u8)) r.1), .sc (.int .i64 r.2)])) (fun x => g_ref01_SegmentESI x) (fun x => by kernel_rfl)

/- leafmesh/leafmeshref22.ESI -/
noncomputable def g_ref22_ESI (x1 : Go.L.Fabric) (x2 : Int) : G prog (Sh.El (.one (Go.AM.V10 Int))) :=
  .skip 4 <| .call c_ref22_Multihomed (x1, x2) fun (r3 : Bool) => .skip 1 <| .br 10 (!r3) (.skip 3 <| .done [] (@Go.AM.V10.mk Int (0 : Int) (0 : Int) (0 : Int) (0 : Int) (0 : Int) (0 : Int) (0 : Int) (0 : Int) (0 : Int) (0 : Int))) (.skip 2 <| .call c_ref01_SegmentESI x2 fun (r5 : (Prod (Go.AM.V10 Int) Int)) => .skip 8 <| .done [] r5.1)
noncomputable def c_ref22_ESI : Ctr prog := Ctr.of cfg 10 19 (Go.L.Fabric × Int) (fun x => [.agg (eFabric x.1), .sc (.int .i64 x.2)]) (.one (Go.AM.V10 Int)) (fun r => .ret (.agg ((eV10 (cI .u8)) r))) (fun x => g_ref22_ESI x.1 x.2) (fun x => by kernel_rfl)

/- leafmesh/leafmeshref22.Label -/
noncomputable def g_ref22_Label (x1 : Go.L.Fabric) (x2 : Int) : G prog (Sh.El (.one Int)) :=
  .skip 4 <| .call c_ref22_Multihomed (x1, x2) fun (r3 : Bool) => .skip 1 <| .br 8 (!r3) (.skip 2 <| .done [] (0 : Int)) (.skip 5 <| .done [] (Go.IntKind.wrap .u32 (Go.IntKind.wrap .i64 (x2 + (1 : Int)))))
noncomputable def c_ref22_Label : Ctr prog := Ctr.of cfg 10 21 (Go.L.Fabric × Int) (fun x => [.agg (eFabric x.1), .sc (.int .i64 x.2)]) (.one Int) (fun r => .ret (.sc (.int .u32 r))) (fun x => g_ref22_Label x.1 x.2) (fun x => by kernel_rfl)

/- leafmesh/nlri.RD -/
noncomputable def g_nlri_RD (x1 : Int) (x2 : Int) : G prog (Sh.El (.one Int)) :=
  .skip 9 <| .done [] (Go.IntKind.wrap .u64 (((@BitVec.toNat (Go.IntKind.bits .u64) ((BitVec.ofInt (Go.IntKind.bits .u64) (Go.IntKind.wrap .u64 (((@BitVec.toNat (Go.IntKind.bits .u64) ((BitVec.ofInt (Go.IntKind.bits .u64) (281474976710656 : Int)) ||| (BitVec.ofInt (Go.IntKind.bits .u64) (Go.IntKind.wrap .u64 ((Go.IntKind.wrap .u64 x1) * ((2 : Int) ^ (@Min.min Nat instMinNat (Int.toNat (16 : Int)) (Go.IntKind.bits .u64)))))))) : Nat) : Int))) ||| (BitVec.ofInt (Go.IntKind.bits .u64) (Go.IntKind.wrap .u64 x2)))) : Nat) : Int))
noncomputable def c_nlri_RD : Ctr prog := Ctr.of cfg 10 69 (Int × Int) (fun x => [.sc (.int .u32 x.1), .sc (.int .u16 x.2)]) (.one Int) (fun r => .ret (.sc (.int .u64 r))) (fun x => g_nlri_RD x.1 x.2) (fun x => by kernel_rfl)

/- leafmesh/tenant.BDRD -/
noncomputable def g_tenant_BDRD (x1 : Go.L.Fabric) (x2 : Int) (x3 : Int) : G prog (Sh.El (.one Int)) :=
  .skip 3 <| .call c_tenant_valid x1 fun (r4 : Bool) => .skip 2 <| .br 10 (!r4) (.skip 16 <| .done [] (0 : Int)) (.skip 3 <| .call c_tenant_within (x2, x1.Leaves) fun (r6 : Bool) => .skip 3 <| .br 17 (!r6) (.skip 9 <| .done [] (0 : Int)) (.skip 3 <| .op (lenO x1.BDs Go.L.eBD) fun _ => .call c_tenant_within (x3, (((List.length x1.BDs) : Nat) : Int)) fun (r8 : Bool) => .skip 2 <| .br 24 (!r8) (.skip 2 <| .done [] (0 : Int)) (.skip 2 <| .call c_tenant_loopback x2 fun (r10 : Int) => .skip 3 <| .call c_nlri_RD (r10, (Go.IntKind.wrap .u16 (Go.IntKind.wrap .i64 ((1 : Int) + x3)))) fun (r11 : Int) => .skip 1 <| .done [] r11)))
noncomputable def c_tenant_BDRD : Ctr prog := Ctr.of cfg 10 22 (Go.L.Fabric × Int × Int) (fun x => [.agg (eFabric x.1), .sc (.int .i64 x.2.1), .sc (.int .i64 x.2.2)]) (.one Int) (fun r => .ret (.sc (.int .u64 r))) (fun x => g_tenant_BDRD x.1 x.2.1 x.2.2) (fun x => by kernel_rfl)

/- leafmesh/leafmeshref04.RD -/
noncomputable def g_ref04_RD (x1 : Int) (x2 : Int) : G prog (Sh.El (.one Int)) :=
  .skip 9 <| .done [] (Go.IntKind.wrap .u64 ((Go.IntKind.wrap .u64 ((281474976710656 : Int) + (Go.IntKind.wrap .u64 ((Go.IntKind.wrap .u64 x1) * ((2 : Int) ^ (@Min.min Nat instMinNat (Int.toNat (16 : Int)) (Go.IntKind.bits .u64))))))) + (Go.IntKind.wrap .u64 x2)))
noncomputable def c_ref04_RD : Ctr prog := Ctr.of cfg 10 121 (Int × Int) (fun x => [.sc (.int .u32 x.1), .sc (.int .u16 x.2)]) (.one Int) (fun r => .ret (.sc (.int .u64 r))) (fun x => g_ref04_RD x.1 x.2) (fun x => by kernel_rfl)

/- leafmesh/leafmeshref22.rd -/
noncomputable def g_ref22_rd (x1 : Go.L.Fabric) (x2 : Int) (x3 : Int) : G prog (Sh.El (.one Int)) :=
  .skip 3 <| .call c_ref22_valid x1 fun (r4 : Bool) => .skip 2 <| .br 10 (!r4) (.skip 9 <| .done [] (0 : Int)) (.skip 4 <| .call c_ref22_within (x2, (0 : Int), (Go.IntKind.wrap .i64 (x1.Leaves - (1 : Int)))) fun (r6 : Bool) => .skip 2 <| .br 17 (!r6) (.skip 2 <| .done [] (0 : Int)) (.skip 3 <| .call c_ref22_Loopback (x1, x2) fun (r8 : Int) => .skip 2 <| .call c_ref04_RD (r8, (Go.IntKind.wrap .u16 x3)) fun (r9 : Int) => .skip 1 <| .done [] r9))
noncomputable def c_ref22_rd : Ctr prog := Ctr.of cfg 10 70 (Go.L.Fabric × Int × Int) (fun x => [.agg (eFabric x.1), .sc (.int .i64 x.2.1), .sc (.int .i64 x.2.2)]) (.one Int) (fun r => .ret (.sc (.int .u64 r))) (fun x => g_ref22_rd x.1 x.2.1 x.2.2) (fun x => by kernel_rfl)

/- leafmesh/leafmeshref22.BDRD -/
noncomputable def g_ref22_BDRD (x1 : Go.L.Fabric) (x2 : Int) (x3 : Int) : G prog (Sh.El (.one Int)) :=
  .skip 5 <| .op (lenO x1.BDs Go.L.eBD) fun _ => .skip 1 <| .call c_ref22_within (x3, (0 : Int), (Go.IntKind.wrap .i64 ((((List.length x1.BDs) : Nat) : Int) - (1 : Int)))) fun (r4 : Bool) => .skip 1 <| .br 13 (!r4) (.skip 2 <| .done [] (0 : Int)) (.skip 5 <| .call c_ref22_rd (x1, x2, (Go.IntKind.wrap .i64 ((1 : Int) + x3))) fun (r6 : Int) => .skip 1 <| .done [] r6)
noncomputable def c_ref22_BDRD : Ctr prog := Ctr.of cfg 10 23 (Go.L.Fabric × Int × Int) (fun x => [.agg (eFabric x.1), .sc (.int .i64 x.2.1), .sc (.int .i64 x.2.2)]) (.one Int) (fun r => .ret (.sc (.int .u64 r))) (fun x => g_ref22_BDRD x.1 x.2.1 x.2.2) (fun x => by kernel_rfl)

/- leafmesh/tenant.TenantRD -/
noncomputable def g_tenant_TenantRD (x1 : Go.L.Fabric) (x2 : Int) (x3 : Int) : G prog (Sh.El (.one Int)) :=
  .skip 3 <| .call c_tenant_valid x1 fun (r4 : Bool) => .skip 2 <| .br 10 (!r4) (.skip 16 <| .done [] (0 : Int)) (.skip 3 <| .call c_tenant_within (x2, x1.Leaves) fun (r6 : Bool) => .skip 3 <| .br 17 (!r6) (.skip 9 <| .done [] (0 : Int)) (.skip 3 <| .op (lenO x1.Tenants Go.L.eTenant) fun _ => .call c_tenant_within (x3, (((List.length x1.Tenants) : Nat) : Int)) fun (r8 : Bool) => .skip 2 <| .br 24 (!r8) (.skip 2 <| .done [] (0 : Int)) (.skip 2 <| .call c_tenant_loopback x2 fun (r10 : Int) => .skip 3 <| .call c_nlri_RD (r10, (Go.IntKind.wrap .u16 (Go.IntKind.wrap .i64 ((1001 : Int) + x3)))) fun (r11 : Int) => .skip 1 <| .done [] r11)))
noncomputable def c_tenant_TenantRD : Ctr prog := Ctr.of cfg 10 24 (Go.L.Fabric × Int × Int) (fun x => [.agg (eFabric x.1), .sc (.int .i64 x.2.1), .sc (.int .i64 x.2.2)]) (.one Int) (fun r => .ret (.sc (.int .u64 r))) (fun x => g_tenant_TenantRD x.1 x.2.1 x.2.2) (fun x => by kernel_rfl)

/- leafmesh/leafmeshref22.TenantRD -/
noncomputable def g_ref22_TenantRD (x1 : Go.L.Fabric) (x2 : Int) (x3 : Int) : G prog (Sh.El (.one Int)) :=
  .skip 5 <| .op (lenO x1.Tenants Go.L.eTenant) fun _ => .skip 1 <| .call c_ref22_within (x3, (0 : Int), (Go.IntKind.wrap .i64 ((((List.length x1.Tenants) : Nat) : Int) - (1 : Int)))) fun (r4 : Bool) => .skip 1 <| .br 13 (!r4) (.skip 2 <| .done [] (0 : Int)) (.skip 5 <| .call c_ref22_rd (x1, x2, (Go.IntKind.wrap .i64 ((1001 : Int) + x3))) fun (r6 : Int) => .skip 1 <| .done [] r6)
noncomputable def c_ref22_TenantRD : Ctr prog := Ctr.of cfg 10 25 (Go.L.Fabric × Int × Int) (fun x => [.agg (eFabric x.1), .sc (.int .i64 x.2.1), .sc (.int .i64 x.2.2)]) (.one Int) (fun r => .ret (.sc (.int .u64 r))) (fun x => g_ref22_TenantRD x.1 x.2.1 x.2.2) (fun x => by kernel_rfl)

/- leafmesh/tenant.SegmentRD -/
noncomputable def g_tenant_SegmentRD (x1 : Go.L.Fabric) (x2 : Int) : G prog (Sh.El (.one Int)) :=
  .skip 3 <| .call c_tenant_valid x1 fun (r3 : Bool) => .skip 2 <| .br 8 (!r3) (.skip 8 <| .done [] (0 : Int)) (.skip 3 <| .call c_tenant_within (x2, x1.Leaves) fun (r5 : Bool) => .skip 2 <| .br 14 (!r5) (.skip 2 <| .done [] (0 : Int)) (.skip 2 <| .call c_tenant_loopback x2 fun (r7 : Int) => .call c_nlri_RD (r7, (0 : Int)) fun (r8 : Int) => .skip 1 <| .done [] r8))
noncomputable def c_tenant_SegmentRD : Ctr prog := Ctr.of cfg 10 26 (Go.L.Fabric × Int) (fun x => [.agg (eFabric x.1), .sc (.int .i64 x.2)]) (.one Int) (fun r => .ret (.sc (.int .u64 r))) (fun x => g_tenant_SegmentRD x.1 x.2) (fun x => by kernel_rfl)

/- leafmesh/leafmeshref22.SegmentRD -/
noncomputable def g_ref22_SegmentRD (x1 : Go.L.Fabric) (x2 : Int) : G prog (Sh.El (.one Int)) :=
  .skip 4 <| .call c_ref22_rd (x1, x2, (0 : Int)) fun (r3 : Int) => .skip 1 <| .done [] r3
noncomputable def c_ref22_SegmentRD : Ctr prog := Ctr.of cfg 10 27 (Go.L.Fabric × Int) (fun x => [.agg (eFabric x.1), .sc (.int .i64 x.2)]) (.one Int) (fun r => .ret (.sc (.int .u64 r))) (fun x => g_ref22_SegmentRD x.1 x.2) (fun x => by kernel_rfl)

/- leafmesh/addr.octets -/
noncomputable def g_addr_octets (x1 : (Go.AM.V10 Int)) : G prog (Sh.El (.one (Prod Int (Prod Int (Prod Int (Prod Int (Prod Int (Prod Int (Prod Int (Prod Int (Prod Int Int))))))))))) :=
  .skip 4 <| .done [] (x1.a0, x1.a1, x1.a2, x1.a3, x1.a4, x1.a5, x1.a6, x1.a7, x1.a8, x1.a9)
noncomputable def c_addr_octets : Ctr prog := Ctr.of cfg 10 162 ((Go.AM.V10 Int)) (fun x => [.agg ((eV10 (cI .u8)) x)]) (.one (Prod Int (Prod Int (Prod Int (Prod Int (Prod Int (Prod Int (Prod Int (Prod Int (Prod Int Int)))))))))) (fun r => .ret (.fn (.func 187) [] [.cptr [.sc (.int .u8 r.1), .sc (.int .u8 r.2.1), .sc (.int .u8 r.2.2.1), .sc (.int .u8 r.2.2.2.1), .sc (.int .u8 r.2.2.2.2.1), .sc (.int .u8 r.2.2.2.2.2.1), .sc (.int .u8 r.2.2.2.2.2.2.1), .sc (.int .u8 r.2.2.2.2.2.2.2.1), .sc (.int .u8 r.2.2.2.2.2.2.2.2.1), .sc (.int .u8 r.2.2.2.2.2.2.2.2.2)] 0])) (fun x => g_addr_octets x) (fun x => by kernel_rfl)

/- cmp.isNaN[byte] -/
noncomputable def g_cmp_isNaN_byte (x1 : Int) : G prog (Sh.El (.one Bool)) :=
  .skip 5 <| .done [] (x1 != x1)
noncomputable def c_cmp_isNaN_byte : Ctr prog := Ctr.of cfg 10 188 (Int) (fun x => [.sc (.int .u8 x)]) (.one Bool) (fun r => .ret (.sc (.bool r))) (fun x => g_cmp_isNaN_byte x) (fun x => by kernel_rfl)

/- cmp.Compare[byte] -/
noncomputable def g_cmp_Compare_byte (x1 : Int) (x2 : Int) : G prog (Sh.El (.one Int)) :=
  .skip 2 <| .call c_cmp_isNaN_byte x1 fun (r3 : Bool) => .skip 2 <| .call c_cmp_isNaN_byte x2 fun (r4 : Bool) => .skip 2 <| .br 11 r3 (.skip 2 <| .br 12 r4 (.skip 2 <| .done [] (0 : Int)) (.skip 2 <| .done [] (-(1 : Int)))) (.skip 2 <| .br 13 r4 (.skip 2 <| .done [] (1 : Int)) (.skip 4 <| .br 16 (decide (x1 < x2)) (.skip 2 <| .done [] (-(1 : Int))) (.skip 4 <| .br 19 (decide (x1 > x2)) (.skip 2 <| .done [] (1 : Int)) (.skip 2 <| .done [] (0 : Int)))))
noncomputable def c_cmp_Compare_byte : Ctr prog := Ctr.of cfg 10 163 (Int × Int) (fun x => [.sc (.int .u8 x.1), .sc (.int .u8 x.2)]) (.one Int) (fun r => .ret (.sc (.int .i64 r))) (fun x => g_cmp_Compare_byte x.1 x.2) (fun x => by kernel_rfl)

/- leafmesh/addr.CompareESI -/
noncomputable def g_addr_CompareESI (x1 : (Go.AM.V10 Int)) (x2 : (Go.AM.V10 Int)) : G prog (Sh.El (.one Int)) :=
  .skip 4 <| .call c_addr_octets x1 fun (r3 : (Prod Int (Prod Int (Prod Int (Prod Int (Prod Int (Prod Int (Prod Int (Prod Int (Prod Int Int)))))))))) => .inl [] <| .skip 2 <| .unroll 300 <| .skip 9 <| .inl [] <| .skip 6 <| .call c_cmp_Compare_byte (r3.1, x2.a0) fun (r4 : Int) => .skip 3 <| .br 18 (r4 != (0 : Int)) (.skip 3 <| .tidy [] <| .skip 2 <| .tidy [] <| .inl [] <| .done [] r4) (.skip 1 <| .tidy [] <| .skip 13 <| .inl [] <| .skip 6 <| .call c_cmp_Compare_byte (r3.2.1, x2.a1) fun (r6 : Int) => .skip 3 <| .br 18 (r6 != (0 : Int)) (.skip 3 <| .tidy [] <| .skip 2 <| .tidy [] <| .inl [] <| .done [] r6) (.skip 1 <| .tidy [] <| .skip 13 <| .inl [] <| .skip 6 <| .call c_cmp_Compare_byte (r3.2.2.1, x2.a2) fun (r8 : Int) => .skip 3 <| .br 18 (r8 != (0 : Int)) (.skip 3 <| .tidy [] <| .skip 2 <| .tidy [] <| .inl [] <| .done [] r8) (.skip 1 <| .tidy [] <| .skip 13 <| .inl [] <| .skip 6 <| .call c_cmp_Compare_byte (r3.2.2.2.1, x2.a3) fun (r10 : Int) => .skip 3 <| .br 18 (r10 != (0 : Int)) (.skip 3 <| .tidy [] <| .skip 2 <| .tidy [] <| .inl [] <| .done [] r10) (.skip 1 <| .tidy [] <| .skip 13 <| .inl [] <| .skip 6 <| .call c_cmp_Compare_byte (r3.2.2.2.2.1, x2.a4) fun (r12 : Int) => .skip 3 <| .br 18 (r12 != (0 : Int)) (.skip 3 <| .tidy [] <| .skip 2 <| .tidy [] <| .inl [] <| .done [] r12) (.skip 1 <| .tidy [] <| .skip 13 <| .inl [] <| .skip 6 <| .call c_cmp_Compare_byte (r3.2.2.2.2.2.1, x2.a5) fun (r14 : Int) => .skip 3 <| .br 18 (r14 != (0 : Int)) (.skip 3 <| .tidy [] <| .skip 2 <| .tidy [] <| .inl [] <| .done [] r14) (.skip 1 <| .tidy [] <| .skip 13 <| .inl [] <| .skip 6 <| .call c_cmp_Compare_byte (r3.2.2.2.2.2.2.1, x2.a6) fun (r16 : Int) => .skip 3 <| .br 18 (r16 != (0 : Int)) (.skip 3 <| .tidy [] <| .skip 2 <| .tidy [] <| .inl [] <| .done [] r16) (.skip 1 <| .tidy [] <| .skip 13 <| .inl [] <| .skip 6 <| .call c_cmp_Compare_byte (r3.2.2.2.2.2.2.2.1, x2.a7) fun (r18 : Int) => .skip 3 <| .br 18 (r18 != (0 : Int)) (.skip 3 <| .tidy [] <| .skip 2 <| .tidy [] <| .inl [] <| .done [] r18) (.skip 1 <| .tidy [] <| .skip 13 <| .inl [] <| .skip 6 <| .call c_cmp_Compare_byte (r3.2.2.2.2.2.2.2.2.1, x2.a8) fun (r20 : Int) => .skip 3 <| .br 18 (r20 != (0 : Int)) (.skip 3 <| .tidy [] <| .skip 2 <| .tidy [] <| .inl [] <| .done [] r20) (.skip 1 <| .tidy [] <| .skip 13 <| .inl [] <| .skip 6 <| .call c_cmp_Compare_byte (r3.2.2.2.2.2.2.2.2.2, x2.a9) fun (r22 : Int) => .skip 3 <| .br 18 (r22 != (0 : Int)) (.skip 3 <| .tidy [] <| .skip 2 <| .tidy [] <| .inl [] <| .done [] r22) (.skip 1 <| .tidy [] <| .skip 6 <| .tidy [] <| .inl [] <| .skip 1 <| .done [] (0 : Int)))))))))))
noncomputable def c_addr_CompareESI : Ctr prog := Ctr.of cfg 10 122 ((Go.AM.V10 Int) × (Go.AM.V10 Int)) (fun x => [.agg ((eV10 (cI .u8)) x.1), .agg ((eV10 (cI .u8)) x.2)]) (.one Int) (fun r => .ret (.sc (.int .i64 r))) (fun x => g_addr_CompareESI x.1 x.2) (fun x => by kernel_rfl)

/- leafmesh/addr.ESISegment -/
noncomputable def g_addr_ESISegment (x1 : (Go.AM.V10 Int)) : G prog (Sh.El (.one (Prod Int Bool))) :=
  .skip 9 <| .call c_addr_SegmentESI (Go.IntKind.wrap .i64 ((Go.IntKind.wrap .i64 x1.a9) - (1 : Int))) fun (r2 : (Prod (Go.AM.V10 Int) Int)) => .skip 9 <| .br 18 (r2.2 != (0 : Int)) (.skip 8 <| .done [] ((0 : Int), false)) (.skip 2 <| .call c_addr_CompareESI (r2.1, x1) fun (r4 : Int) => .skip 2 <| .br 23 (r4 != (0 : Int)) (.skip 3 <| .done [] ((0 : Int), false)) (.skip 5 <| .done [] ((Go.IntKind.wrap .i64 ((Go.IntKind.wrap .i64 x1.a9) - (1 : Int))), true)))
noncomputable def c_addr_ESISegment : Ctr prog := Ctr.of cfg 10 71 ((Go.AM.V10 Int)) (fun x => [.agg ((eV10 (cI .u8)) x)]) (.one (Prod Int Bool)) (fun r => .ret (.tup [.sc (.int .i64 r.1), .sc (.bool r.2)])) (fun x => g_addr_ESISegment x) (fun x => by kernel_rfl)

/- leafmesh/tenant.SegmentOf -/
noncomputable def g_tenant_SegmentOf (x1 : Go.L.Fabric) (x2 : (Go.AM.V10 Int)) : G prog (Sh.El (.one (Prod Int Bool))) :=
  .skip 5 <| .call c_addr_ESISegment x2 fun (r3 : (Prod Int Bool)) => .skip 8 <| .br 15 (!r3.2) (.skip 13 <| .done [] ((0 : Int), false)) (.skip 1 <| .call c_tenant_valid x1 fun (r5 : Bool) => .skip 3 <| .br 20 (!r5) (.skip 8 <| .done [] ((0 : Int), false)) (.skip 2 <| .call c_tenant_multihomed (x1, r3.1) fun (r7 : Bool) => .skip 2 <| .br 25 (!r7) (.skip 3 <| .done [] ((0 : Int), false)) (.skip 4 <| .done [] (r3.1, true))))
noncomputable def c_tenant_SegmentOf : Ctr prog := Ctr.of cfg 10 28 (Go.L.Fabric × (Go.AM.V10 Int)) (fun x => [.agg (eFabric x.1), .agg ((eV10 (cI .u8)) x.2)]) (.one (Prod Int Bool)) (fun r => .ret (.tup [.sc (.int .i64 r.1), .sc (.bool r.2)])) (fun x => g_tenant_SegmentOf x.1 x.2) (fun x => by kernel_rfl)

/- leafmesh/leafmeshref22.SegmentOf -/
noncomputable def g_ref22_SegmentOf (x1 : Go.L.Fabric) (x2 : (Go.AM.V10 Int)) : G prog (Sh.El (.one (Prod Int Bool))) :=
  .skip 7 <| .br 9 ((x2.a0 == (0 : Int)) && ((x2.a1 == (0 : Int)) && ((x2.a2 == (0 : Int)) && ((x2.a3 == (0 : Int)) && ((x2.a4 == (0 : Int)) && ((x2.a5 == (0 : Int)) && ((x2.a6 == (0 : Int)) && ((x2.a7 == (0 : Int)) && ((x2.a8 == (0 : Int)) && ((x2.a9 == (0 : Int)) && true)))))))))) (.skip 3 <| .done [] ((0 : Int), false)) (.skip 2 <| .loop (.two (.one Int) (.one Unit)) [.keep [2, 3, 6]] (fun (a : Int) => ⟨[.junk, .junk, (.ptr 0 0 0 0), (.ptr 1 0 0 0), .junk, .junk, .sc (.int .i64 a)] ++ List.replicate 16 .junk, [.row 0 19 [eFabric x1], .row 0 10 [(eV10 (cI .u8)) x2]], []⟩)
    (Sum.elim (fun (t : Int) => (.ret, ⟨List.replicate 4 .junk ++ [.sc (.int .i64 t), (.sc (.bool true))] ++ List.replicate 17 .junk, [.row 0 19 [eFabric x1], .row 0 10 [(eV10 (cI .u8)) x2]], []⟩)) (fun (_ : Unit) => (.exit 0, ⟨List.replicate 23 .junk, [.row 0 19 [eFabric x1], .row 0 10 [(eV10 (cI .u8)) x2]], []⟩))) (0 : Int)
    (fun (a4 : Int) => .skip 3 <| .op (lenO x1.Segments Go.L.eSegment) fun _ => .skip 1 <| .br 14 (decide (a4 < (((List.length x1.Segments) : Nat) : Int))) (.skip 3 <| .call c_ref22_ESI (x1, a4) fun (r5 : (Go.AM.V10 Int)) => .skip 2 <| .br 21 ((r5.a0 == x2.a0) && ((r5.a1 == x2.a1) && ((r5.a2 == x2.a2) && ((r5.a3 == x2.a3) && ((r5.a4 == x2.a4) && ((r5.a5 == x2.a5) && ((r5.a6 == x2.a6) && ((r5.a7 == x2.a7) && ((r5.a8 == x2.a8) && ((r5.a9 == x2.a9) && true)))))))))) (.skip 4 <| .done [.keep [4, 5]] (.inr (.inl a4))) (.skip 4 <| .done [.keep [2, 3, 6]] (.inl (Go.IntKind.wrap .i64 (a4 + (1 : Int)))))) (.skip 1 <| .done [.keep []] (.inr (.inr ()))))
    (Sum.elim (fun (t9 : Int) => .done [] (t9, true)) (fun _ => .skip 2 <| .done [] ((0 : Int), false))))
noncomputable def c_ref22_SegmentOf : Ctr prog := Ctr.of cfg 10 29 (Go.L.Fabric × (Go.AM.V10 Int)) (fun x => [.agg (eFabric x.1), .agg ((eV10 (cI .u8)) x.2)]) (.one (Prod Int Bool)) (fun r => .ret (.tup [.sc (.int .i64 r.1), .sc (.bool r.2)])) (fun x => g_ref22_SegmentOf x.1 x.2) (fun x => by kernel_rfl)

/- leafmesh/leafmeshref22.BDOf -/
noncomputable def g_ref22_BDOf (x1 : Go.L.Fabric) (x2 : Int) : G prog (Sh.El (.one (Prod Int Bool))) :=
  .skip 4 <| .loop (.two (.one Int) (.one Unit)) [.keep [1, 2, 6]] (fun (a : Int) => ⟨[.junk, (.sc (.int .u32 x2)), (.ptr 0 0 0 0), .junk, .junk, .junk, .sc (.int .i64 a)] ++ List.replicate 20 .junk, [.row 0 19 [eFabric x1]], []⟩)
    (Sum.elim (fun (t : Int) => (.ret, ⟨List.replicate 4 .junk ++ [.sc (.int .i64 t), (.sc (.bool true))] ++ List.replicate 21 .junk, [.row 0 19 [eFabric x1]], []⟩)) (fun (_ : Unit) => (.exit 0, ⟨List.replicate 27 .junk, [.row 0 19 [eFabric x1]], []⟩))) (0 : Int)
    (fun (a3 : Int) => .skip 1 <| .call c_ref22_valid x1 fun (r4 : Bool) => .skip 1 <| .br 9 r4 (.skip 3 <| .op (lenO x1.BDs Go.L.eBD) fun _ => .skip 2 <| .br 15 (decide (a3 < (((List.length x1.BDs) : Nat) : Int))) (.skip 4 <| .op (idxO x1.BDs Go.L.eBD 6 a3) fun x5 => .skip 4 <| .br 25 (x5.VNI == x2) (.skip 4 <| .done [.keep [4, 5]] (.inr (.inl a3))) (.skip 4 <| .done [.keep [1, 2, 6]] (.inl (Go.IntKind.wrap .i64 (a3 + (1 : Int)))))) (.skip 1 <| .done [.keep []] (.inr (.inr ())))) (.skip 7 <| .done [.keep []] (.inr (.inr ()))))
    (Sum.elim (fun (t10 : Int) => .done [] (t10, true)) (fun _ => .skip 2 <| .done [] ((0 : Int), false)))
noncomputable def c_ref22_BDOf : Ctr prog := Ctr.of cfg 10 72 (Go.L.Fabric × Int) (fun x => [.agg (eFabric x.1), .sc (.int .u32 x.2)]) (.one (Prod Int Bool)) (fun r => .ret (.tup [.sc (.int .i64 r.1), .sc (.bool r.2)])) (fun x => g_ref22_BDOf x.1 x.2) (fun x => by kernel_rfl)

/- leafmesh/tenant.TenantOf$1 -/
noncomputable def g_tenant_TenantOf_1 (x1 : Go.L.Tenant) (x2 : Int) : G prog (Sh.El (.one Bool)) :=
  .skip 7 <| .done [] (x1.VNI == x2)
noncomputable def c_tenant_TenantOf_1 : Ctr prog := Ctr.of cfg 10 124 (Go.L.Tenant × Int) (fun x => [.agg (eTenant x.1), .cptr [.sc (.int .u32 x.2)] 0]) (.one Bool) (fun r => .ret (.sc (.bool r))) (fun x => g_tenant_TenantOf_1 x.1 x.2) (fun x => by kernel_rfl)

/- slices.IndexFunc[[]leafmesh/api.Tenant,leafmesh/api.Tenant] -/
noncomputable def g_slices_IndexFunc_Tenant_Tenant_3 (x1 : (List Go.L.Tenant)) (x2 : Int) : G prog (Sh.El (.one Int)) :=
  .skip 2 <| .op (lenO x1 Go.L.eTenant) fun _ => .skip 1 <| .loop (.two (.one Int) (.one Unit)) [.keep [0, 1, 7, 8]] (fun (a : Int) => ⟨[(.lst (List.map Go.L.eTenant x1)), (.fn (.func 124) [] [(.cptr [(.sc (.int .u32 x2))] 0)])] ++ List.replicate 5 .junk ++ [(.sc (.int .i64 (((List.length x1) : Nat) : Int))), .sc (.int .i64 a)] ++ List.replicate 10 .junk, [], []⟩)
    (Sum.elim (fun (t : Int) => (.ret, ⟨List.replicate 4 .junk ++ [.sc (.int .i64 t)] ++ List.replicate 14 .junk, [], []⟩)) (fun (_ : Unit) => (.exit 0, ⟨List.replicate 19 .junk, [], []⟩))) (0 : Int)
    (fun (a3 : Int) => .skip 1 <| .br 9 (decide (a3 < (((List.length x1) : Nat) : Int))) (.skip 6 <| .op (idxO x1 Go.L.eTenant 2 a3) fun x4 => .skip 1 <| .call c_tenant_TenantOf_1 (x4, x2) fun (r5 : Bool) => .br 16 r5 (.skip 3 <| .done [.keep [4]] (.inr (.inl a3))) (.skip 3 <| .done [.keep [0, 1, 7, 8]] (.inl (Go.IntKind.wrap .i64 (a3 + (1 : Int)))))) (.skip 1 <| .done [.keep []] (.inr (.inr ()))))
    (Sum.elim (fun (t9 : Int) => .done [] t9) (fun _ => .skip 1 <| .done [] (-(1 : Int))))
noncomputable def c_slices_IndexFunc_Tenant_Tenant_3 : Ctr prog := Ctr.of cfg 10 164 ((List Go.L.Tenant) × Int) (fun x => [.lst (x.1.map eTenant), .fn (.func 124) [] [.cptr [.sc (.int .u32 x.2)] 0]]) (.one Int) (fun r => .ret (.sc (.int .i64 r))) (fun x => g_slices_IndexFunc_Tenant_Tenant_3 x.1 x.2) (fun x => by kernel_rfl)

/- leafmesh/tenant.find[leafmesh/api.Tenant] -/
noncomputable def g_tenant_find_Tenant (x1 : (List Go.L.Tenant)) (x2 : Int) : G prog (Sh.El (.one (Prod Int Bool))) :=
  .skip 4 <| .call c_slices_IndexFunc_Tenant_Tenant_3 (x1, x2) fun (r3 : Int) => .skip 3 <| .br 11 (decide (r3 < (0 : Int))) (.skip 3 <| .done [] ((0 : Int), false)) (.skip 4 <| .done [] (r3, true))
noncomputable def c_tenant_find_Tenant : Ctr prog := Ctr.of cfg 10 123 ((List Go.L.Tenant) × Int) (fun x => [.lst (x.1.map eTenant), .fn (.func 124) [] [.cptr [.sc (.int .u32 x.2)] 0]]) (.one (Prod Int Bool)) (fun r => .ret (.tup [.sc (.int .i64 r.1), .sc (.bool r.2)])) (fun x => g_tenant_find_Tenant x.1 x.2) (fun x => by kernel_rfl)

/- leafmesh/tenant.TenantOf -/
noncomputable def g_tenant_TenantOf (x1 : Go.L.Fabric) (x2 : Int) : G prog (Sh.El (.one (Prod Int Bool))) :=
  .skip 5 <| .call c_tenant_valid x1 fun (r3 : Bool) => .skip 1 <| .br 8 (!r3) (.skip 3 <| .done [] ((0 : Int), false)) (.skip 4 <| .call c_tenant_find_Tenant (x1.Tenants, x2) fun (r5 : (Prod Int Bool)) => .skip 4 <| .done [] (r5.1, r5.2))
noncomputable def c_tenant_TenantOf : Ctr prog := Ctr.of cfg 10 73 (Go.L.Fabric × Int) (fun x => [.agg (eFabric x.1), .sc (.int .u32 x.2)]) (.one (Prod Int Bool)) (fun r => .ret (.tup [.sc (.int .i64 r.1), .sc (.bool r.2)])) (fun x => g_tenant_TenantOf x.1 x.2) (fun x => by kernel_rfl)

/- leafmesh/leafmeshref22.TenantOf -/
noncomputable def g_ref22_TenantOf (x1 : Go.L.Fabric) (x2 : Int) : G prog (Sh.El (.one (Prod Int Bool))) :=
  .skip 4 <| .loop (.two (.one Int) (.one Unit)) [.keep [1, 2, 6]] (fun (a : Int) => ⟨[.junk, (.sc (.int .u32 x2)), (.ptr 0 0 0 0), .junk, .junk, .junk, .sc (.int .i64 a)] ++ List.replicate 20 .junk, [.row 0 19 [eFabric x1]], []⟩)
    (Sum.elim (fun (t : Int) => (.ret, ⟨List.replicate 4 .junk ++ [.sc (.int .i64 t), (.sc (.bool true))] ++ List.replicate 21 .junk, [.row 0 19 [eFabric x1]], []⟩)) (fun (_ : Unit) => (.exit 0, ⟨List.replicate 27 .junk, [.row 0 19 [eFabric x1]], []⟩))) (0 : Int)
    (fun (a3 : Int) => .skip 1 <| .call c_ref22_valid x1 fun (r4 : Bool) => .skip 1 <| .br 9 r4 (.skip 3 <| .op (lenO x1.Tenants Go.L.eTenant) fun _ => .skip 2 <| .br 15 (decide (a3 < (((List.length x1.Tenants) : Nat) : Int))) (.skip 4 <| .op (idxO x1.Tenants Go.L.eTenant 2 a3) fun x5 => .skip 4 <| .br 25 (x5.VNI == x2) (.skip 4 <| .done [.keep [4, 5]] (.inr (.inl a3))) (.skip 4 <| .done [.keep [1, 2, 6]] (.inl (Go.IntKind.wrap .i64 (a3 + (1 : Int)))))) (.skip 1 <| .done [.keep []] (.inr (.inr ())))) (.skip 7 <| .done [.keep []] (.inr (.inr ()))))
    (Sum.elim (fun (t10 : Int) => .done [] (t10, true)) (fun _ => .skip 2 <| .done [] ((0 : Int), false)))
noncomputable def c_ref22_TenantOf : Ctr prog := Ctr.of cfg 10 74 (Go.L.Fabric × Int) (fun x => [.agg (eFabric x.1), .sc (.int .u32 x.2)]) (.one (Prod Int Bool)) (fun r => .ret (.tup [.sc (.int .i64 r.1), .sc (.bool r.2)])) (fun x => g_ref22_TenantOf x.1 x.2) (fun x => by kernel_rfl)

/- leafmesh/tenant.DomainOf$1 -/
noncomputable def g_tenant_DomainOf_1 (x1 : Go.L.BD) (x2 : Int) : G prog (Sh.El (.one Bool)) :=
  .skip 7 <| .done [] (x1.Target == x2)
noncomputable def c_tenant_DomainOf_1 : Ctr prog := Ctr.of cfg 10 125 (Go.L.BD × Int) (fun x => [.agg (eBD x.1), .cptr [.sc (.int .u32 x.2)] 0]) (.one Bool) (fun r => .ret (.sc (.bool r))) (fun x => g_tenant_DomainOf_1 x.1 x.2) (fun x => by kernel_rfl)

/- slices.IndexFunc[[]leafmesh/api.BD,leafmesh/api.BD] -/
noncomputable def g_slices_IndexFunc_BD_BD_3 (x1 : (List Go.L.BD)) (x2 : Int) : G prog (Sh.El (.one Int)) :=
  .skip 2 <| .op (lenO x1 Go.L.eBD) fun _ => .skip 1 <| .loop (.two (.one Int) (.one Unit)) [.keep [0, 1, 7, 8]] (fun (a : Int) => ⟨[(.lst (List.map Go.L.eBD x1)), (.fn (.func 125) [] [(.cptr [(.sc (.int .u32 x2))] 0)])] ++ List.replicate 5 .junk ++ [(.sc (.int .i64 (((List.length x1) : Nat) : Int))), .sc (.int .i64 a)] ++ List.replicate 10 .junk, [], []⟩)
    (Sum.elim (fun (t : Int) => (.ret, ⟨List.replicate 4 .junk ++ [.sc (.int .i64 t)] ++ List.replicate 14 .junk, [], []⟩)) (fun (_ : Unit) => (.exit 0, ⟨List.replicate 19 .junk, [], []⟩))) (0 : Int)
    (fun (a3 : Int) => .skip 1 <| .br 9 (decide (a3 < (((List.length x1) : Nat) : Int))) (.skip 6 <| .op (idxO x1 Go.L.eBD 6 a3) fun x4 => .skip 1 <| .call c_tenant_DomainOf_1 (x4, x2) fun (r5 : Bool) => .br 16 r5 (.skip 3 <| .done [.keep [4]] (.inr (.inl a3))) (.skip 3 <| .done [.keep [0, 1, 7, 8]] (.inl (Go.IntKind.wrap .i64 (a3 + (1 : Int)))))) (.skip 1 <| .done [.keep []] (.inr (.inr ()))))
    (Sum.elim (fun (t9 : Int) => .done [] t9) (fun _ => .skip 1 <| .done [] (-(1 : Int))))
noncomputable def c_slices_IndexFunc_BD_BD_3 : Ctr prog := Ctr.of cfg 10 156 ((List Go.L.BD) × Int) (fun x => [.lst (x.1.map eBD), .fn (.func 125) [] [.cptr [.sc (.int .u32 x.2)] 0]]) (.one Int) (fun r => .ret (.sc (.int .i64 r))) (fun x => g_slices_IndexFunc_BD_BD_3 x.1 x.2) (fun x => by kernel_rfl)

/- leafmesh/tenant.find[leafmesh/api.BD] -/
noncomputable def g_tenant_find_BD_2 (x1 : (List Go.L.BD)) (x2 : Int) : G prog (Sh.El (.one (Prod Int Bool))) :=
  .skip 4 <| .call c_slices_IndexFunc_BD_BD_3 (x1, x2) fun (r3 : Int) => .skip 3 <| .br 11 (decide (r3 < (0 : Int))) (.skip 3 <| .done [] ((0 : Int), false)) (.skip 4 <| .done [] (r3, true))
noncomputable def c_tenant_find_BD_2 : Ctr prog := Ctr.of cfg 10 116 ((List Go.L.BD) × Int) (fun x => [.lst (x.1.map eBD), .fn (.func 125) [] [.cptr [.sc (.int .u32 x.2)] 0]]) (.one (Prod Int Bool)) (fun r => .ret (.tup [.sc (.int .i64 r.1), .sc (.bool r.2)])) (fun x => g_tenant_find_BD_2 x.1 x.2) (fun x => by kernel_rfl)

/- leafmesh/tenant.DomainOf -/
noncomputable def g_tenant_DomainOf (x1 : Go.L.Fabric) (x2 : Int) : G prog (Sh.El (.one (Prod Int Bool))) :=
  .skip 5 <| .call c_tenant_valid x1 fun (r3 : Bool) => .skip 1 <| .br 8 (!r3) (.skip 3 <| .done [] ((0 : Int), false)) (.skip 4 <| .call c_tenant_find_BD_2 (x1.BDs, x2) fun (r5 : (Prod Int Bool)) => .skip 4 <| .done [] (r5.1, r5.2))
noncomputable def c_tenant_DomainOf : Ctr prog := Ctr.of cfg 10 75 (Go.L.Fabric × Int) (fun x => [.agg (eFabric x.1), .sc (.int .u32 x.2)]) (.one (Prod Int Bool)) (fun r => .ret (.tup [.sc (.int .i64 r.1), .sc (.bool r.2)])) (fun x => g_tenant_DomainOf x.1 x.2) (fun x => by kernel_rfl)

/- leafmesh/leafmeshref22.DomainOf -/
noncomputable def g_ref22_DomainOf (x1 : Go.L.Fabric) (x2 : Int) : G prog (Sh.El (.one (Prod Int Bool))) :=
  .skip 4 <| .loop (.two (.one Int) (.one Unit)) [.keep [1, 2, 6]] (fun (a : Int) => ⟨[.junk, (.sc (.int .u32 x2)), (.ptr 0 0 0 0), .junk, .junk, .junk, .sc (.int .i64 a)] ++ List.replicate 20 .junk, [.row 0 19 [eFabric x1]], []⟩)
    (Sum.elim (fun (t : Int) => (.ret, ⟨List.replicate 4 .junk ++ [.sc (.int .i64 t), (.sc (.bool true))] ++ List.replicate 21 .junk, [.row 0 19 [eFabric x1]], []⟩)) (fun (_ : Unit) => (.exit 0, ⟨List.replicate 27 .junk, [.row 0 19 [eFabric x1]], []⟩))) (0 : Int)
    (fun (a3 : Int) => .skip 1 <| .call c_ref22_valid x1 fun (r4 : Bool) => .skip 1 <| .br 9 r4 (.skip 3 <| .op (lenO x1.BDs Go.L.eBD) fun _ => .skip 2 <| .br 15 (decide (a3 < (((List.length x1.BDs) : Nat) : Int))) (.skip 4 <| .op (idxO x1.BDs Go.L.eBD 6 a3) fun x5 => .skip 4 <| .br 25 (x5.Target == x2) (.skip 4 <| .done [.keep [4, 5]] (.inr (.inl a3))) (.skip 4 <| .done [.keep [1, 2, 6]] (.inl (Go.IntKind.wrap .i64 (a3 + (1 : Int)))))) (.skip 1 <| .done [.keep []] (.inr (.inr ())))) (.skip 7 <| .done [.keep []] (.inr (.inr ()))))
    (Sum.elim (fun (t10 : Int) => .done [] (t10, true)) (fun _ => .skip 2 <| .done [] ((0 : Int), false)))
noncomputable def c_ref22_DomainOf : Ctr prog := Ctr.of cfg 10 76 (Go.L.Fabric × Int) (fun x => [.agg (eFabric x.1), .sc (.int .u32 x.2)]) (.one (Prod Int Bool)) (fun r => .ret (.tup [.sc (.int .i64 r.1), .sc (.bool r.2)])) (fun x => g_ref22_DomainOf x.1 x.2) (fun x => by kernel_rfl)

/- leafmesh/tenant.RouterOf$1 -/
noncomputable def g_tenant_RouterOf_1 (x1 : Go.L.Tenant) (x2 : Int) : G prog (Sh.El (.one Bool)) :=
  .skip 7 <| .done [] (x1.Target == x2)
noncomputable def c_tenant_RouterOf_1 : Ctr prog := Ctr.of cfg 10 126 (Go.L.Tenant × Int) (fun x => [.agg (eTenant x.1), .cptr [.sc (.int .u32 x.2)] 0]) (.one Bool) (fun r => .ret (.sc (.bool r))) (fun x => g_tenant_RouterOf_1 x.1 x.2) (fun x => by kernel_rfl)

/- slices.IndexFunc[[]leafmesh/api.Tenant,leafmesh/api.Tenant] -/
noncomputable def g_slices_IndexFunc_Tenant_Tenant_4 (x1 : (List Go.L.Tenant)) (x2 : Int) : G prog (Sh.El (.one Int)) :=
  .skip 2 <| .op (lenO x1 Go.L.eTenant) fun _ => .skip 1 <| .loop (.two (.one Int) (.one Unit)) [.keep [0, 1, 7, 8]] (fun (a : Int) => ⟨[(.lst (List.map Go.L.eTenant x1)), (.fn (.func 126) [] [(.cptr [(.sc (.int .u32 x2))] 0)])] ++ List.replicate 5 .junk ++ [(.sc (.int .i64 (((List.length x1) : Nat) : Int))), .sc (.int .i64 a)] ++ List.replicate 10 .junk, [], []⟩)
    (Sum.elim (fun (t : Int) => (.ret, ⟨List.replicate 4 .junk ++ [.sc (.int .i64 t)] ++ List.replicate 14 .junk, [], []⟩)) (fun (_ : Unit) => (.exit 0, ⟨List.replicate 19 .junk, [], []⟩))) (0 : Int)
    (fun (a3 : Int) => .skip 1 <| .br 9 (decide (a3 < (((List.length x1) : Nat) : Int))) (.skip 6 <| .op (idxO x1 Go.L.eTenant 2 a3) fun x4 => .skip 1 <| .call c_tenant_RouterOf_1 (x4, x2) fun (r5 : Bool) => .br 16 r5 (.skip 3 <| .done [.keep [4]] (.inr (.inl a3))) (.skip 3 <| .done [.keep [0, 1, 7, 8]] (.inl (Go.IntKind.wrap .i64 (a3 + (1 : Int)))))) (.skip 1 <| .done [.keep []] (.inr (.inr ()))))
    (Sum.elim (fun (t9 : Int) => .done [] t9) (fun _ => .skip 1 <| .done [] (-(1 : Int))))
noncomputable def c_slices_IndexFunc_Tenant_Tenant_4 : Ctr prog := Ctr.of cfg 10 164 ((List Go.L.Tenant) × Int) (fun x => [.lst (x.1.map eTenant), .fn (.func 126) [] [.cptr [.sc (.int .u32 x.2)] 0]]) (.one Int) (fun r => .ret (.sc (.int .i64 r))) (fun x => g_slices_IndexFunc_Tenant_Tenant_4 x.1 x.2) (fun x => by kernel_rfl)

/- leafmesh/tenant.find[leafmesh/api.Tenant] -/
noncomputable def g_tenant_find_Tenant_2 (x1 : (List Go.L.Tenant)) (x2 : Int) : G prog (Sh.El (.one (Prod Int Bool))) :=
  .skip 4 <| .call c_slices_IndexFunc_Tenant_Tenant_4 (x1, x2) fun (r3 : Int) => .skip 3 <| .br 11 (decide (r3 < (0 : Int))) (.skip 3 <| .done [] ((0 : Int), false)) (.skip 4 <| .done [] (r3, true))
noncomputable def c_tenant_find_Tenant_2 : Ctr prog := Ctr.of cfg 10 123 ((List Go.L.Tenant) × Int) (fun x => [.lst (x.1.map eTenant), .fn (.func 126) [] [.cptr [.sc (.int .u32 x.2)] 0]]) (.one (Prod Int Bool)) (fun r => .ret (.tup [.sc (.int .i64 r.1), .sc (.bool r.2)])) (fun x => g_tenant_find_Tenant_2 x.1 x.2) (fun x => by kernel_rfl)

/- leafmesh/tenant.RouterOf -/
noncomputable def g_tenant_RouterOf (x1 : Go.L.Fabric) (x2 : Int) : G prog (Sh.El (.one (Prod Int Bool))) :=
  .skip 5 <| .call c_tenant_valid x1 fun (r3 : Bool) => .skip 1 <| .br 8 (!r3) (.skip 3 <| .done [] ((0 : Int), false)) (.skip 4 <| .call c_tenant_find_Tenant_2 (x1.Tenants, x2) fun (r5 : (Prod Int Bool)) => .skip 4 <| .done [] (r5.1, r5.2))
noncomputable def c_tenant_RouterOf : Ctr prog := Ctr.of cfg 10 77 (Go.L.Fabric × Int) (fun x => [.agg (eFabric x.1), .sc (.int .u32 x.2)]) (.one (Prod Int Bool)) (fun r => .ret (.tup [.sc (.int .i64 r.1), .sc (.bool r.2)])) (fun x => g_tenant_RouterOf x.1 x.2) (fun x => by kernel_rfl)

/- leafmesh/leafmeshref22.RouterOf -/
noncomputable def g_ref22_RouterOf (x1 : Go.L.Fabric) (x2 : Int) : G prog (Sh.El (.one (Prod Int Bool))) :=
  .skip 4 <| .loop (.two (.one Int) (.one Unit)) [.keep [1, 2, 6]] (fun (a : Int) => ⟨[.junk, (.sc (.int .u32 x2)), (.ptr 0 0 0 0), .junk, .junk, .junk, .sc (.int .i64 a)] ++ List.replicate 20 .junk, [.row 0 19 [eFabric x1]], []⟩)
    (Sum.elim (fun (t : Int) => (.ret, ⟨List.replicate 4 .junk ++ [.sc (.int .i64 t), (.sc (.bool true))] ++ List.replicate 21 .junk, [.row 0 19 [eFabric x1]], []⟩)) (fun (_ : Unit) => (.exit 0, ⟨List.replicate 27 .junk, [.row 0 19 [eFabric x1]], []⟩))) (0 : Int)
    (fun (a3 : Int) => .skip 1 <| .call c_ref22_valid x1 fun (r4 : Bool) => .skip 1 <| .br 9 r4 (.skip 3 <| .op (lenO x1.Tenants Go.L.eTenant) fun _ => .skip 2 <| .br 15 (decide (a3 < (((List.length x1.Tenants) : Nat) : Int))) (.skip 4 <| .op (idxO x1.Tenants Go.L.eTenant 2 a3) fun x5 => .skip 4 <| .br 25 (x5.Target == x2) (.skip 4 <| .done [.keep [4, 5]] (.inr (.inl a3))) (.skip 4 <| .done [.keep [1, 2, 6]] (.inl (Go.IntKind.wrap .i64 (a3 + (1 : Int)))))) (.skip 1 <| .done [.keep []] (.inr (.inr ())))) (.skip 7 <| .done [.keep []] (.inr (.inr ()))))
    (Sum.elim (fun (t10 : Int) => .done [] (t10, true)) (fun _ => .skip 2 <| .done [] ((0 : Int), false)))
noncomputable def c_ref22_RouterOf : Ctr prog := Ctr.of cfg 10 78 (Go.L.Fabric × Int) (fun x => [.agg (eFabric x.1), .sc (.int .u32 x.2)]) (.one (Prod Int Bool)) (fun r => .ret (.tup [.sc (.int .i64 r.1), .sc (.bool r.2)])) (fun x => g_ref22_RouterOf x.1 x.2) (fun x => by kernel_rfl)

/- leafmesh/leafmeshlaw22.found -/
noncomputable def g_law22_found (x1 : Go.L.Fabric) (x2 : Int) : G prog (Sh.El (.one Bool)) :=
  .skip 4 <| .call c_tenant_BDOf (x1, x2) fun (r3 : (Prod Int Bool)) => .skip 7 <| .call c_ref22_BDOf (x1, x2) fun (r4 : (Prod Int Bool)) => .skip 7 <| .call c_tenant_TenantOf (x1, x2) fun (r5 : (Prod Int Bool)) => .skip 7 <| .call c_ref22_TenantOf (x1, x2) fun (r6 : (Prod Int Bool)) => .skip 9 <| .br 40 (r3.1 != r4.1) (.skip 16 <| .done [] false) (.skip 5 <| .br 45 (!(r3.2 == r4.2)) (.skip 11 <| .done [] false) (.skip 5 <| .br 50 (r5.1 != r6.1) (.skip 6 <| .done [] false) (.skip 4 <| .br 54 (!(r5.2 == r6.2)) (.skip 2 <| .done [] false) (.skip 3 <| .call c_tenant_DomainOf (x1, x2) fun (r11 : (Prod Int Bool)) => .skip 7 <| .call c_ref22_DomainOf (x1, x2) fun (r12 : (Prod Int Bool)) => .skip 7 <| .call c_tenant_RouterOf (x1, x2) fun (r13 : (Prod Int Bool)) => .skip 7 <| .call c_ref22_RouterOf (x1, x2) fun (r14 : (Prod Int Bool)) => .skip 9 <| .br 82 (r11.1 == r12.1) (.skip 5 <| .br 87 (r11.2 == r12.2) (.skip 5 <| .br 92 (r13.1 == r14.1) (.skip 5 <| .done [] (r13.2 == r14.2)) (.skip 5 <| .done [] false)) (.skip 10 <| .done [] false)) (.skip 15 <| .done [] false)))))
noncomputable def c_law22_found : Ctr prog := Ctr.of cfg 10 30 (Go.L.Fabric × Int) (fun x => [.agg (eFabric x.1), .sc (.int .u32 x.2)]) (.one Bool) (fun r => .ret (.sc (.bool r))) (fun x => g_law22_found x.1 x.2) (fun x => by kernel_rfl)

/- leafmesh/leafmeshlaw22.TenantNumbers -/
noncomputable def g_law22_TenantNumbers (x1 : Go.L.Fabric) (x2 : Int) (x3 : Int) (x4 : Int) (x5 : (Go.AM.V10 Int)) : G prog (Sh.El (.one Bool)) :=
  .skip 4 <| .call c_kit_Vast x1 fun (r6 : Bool) => .br 16 r6 (.skip 1 <| .call c_law22_awake () fun (r7 : Bool) => .skip 1 <| .done [] r7) (.skip 3 <| .call c_tenant_Loopback (x1, x2) fun (r9 : Int) => .skip 2 <| .call c_ref22_Loopback (x1, x2) fun (r10 : Int) => .skip 2 <| .br 25 (r9 != r10) (.skip 11 <| .done [] false) (.skip 2 <| .call c_tenant_At (x1, x2) fun (r12 : (List Int)) => .skip 2 <| .call c_ref22_At (x1, x2) fun (r13 : (List Int)) => .call c_kit_SameInts (r12, r13) fun (r14 : Bool) => .skip 2 <| .br 34 (!r14) (.skip 2 <| .done [] false) (.skip 3 <| .call c_tenant_Multihomed (x1, x2) fun (r16 : Bool) => .skip 2 <| .call c_ref22_Multihomed (x1, x2) fun (r17 : Bool) => .skip 2 <| .br 42 (!(r16 == r17)) (.skip 19 <| .done [] false) (.skip 2 <| .call c_tenant_ESI (x1, x2) fun (r19 : (Go.AM.V10 Int)) => .skip 2 <| .call c_ref22_ESI (x1, x2) fun (r20 : (Go.AM.V10 Int)) => .skip 3 <| .br 51 (!((r19.a0 == r20.a0) && ((r19.a1 == r20.a1) && ((r19.a2 == r20.a2) && ((r19.a3 == r20.a3) && ((r19.a4 == r20.a4) && ((r19.a5 == r20.a5) && ((r19.a6 == r20.a6) && ((r19.a7 == r20.a7) && ((r19.a8 == r20.a8) && ((r19.a9 == r20.a9) && true))))))))))) (.skip 10 <| .done [] false) (.skip 2 <| .call c_tenant_Label (x1, x2) fun (r22 : Int) => .skip 2 <| .call c_ref22_Label (x1, x2) fun (r23 : Int) => .skip 2 <| .br 59 (r22 != r23) (.skip 2 <| .done [] false) (.skip 4 <| .call c_tenant_BDRD (x1, x2, x3) fun (r25 : Int) => .skip 3 <| .call c_ref22_BDRD (x1, x2, x3) fun (r26 : Int) => .skip 2 <| .br 69 (r25 != r26) (.skip 21 <| .done [] false) (.skip 3 <| .call c_tenant_TenantRD (x1, x2, x3) fun (r28 : Int) => .skip 3 <| .call c_ref22_TenantRD (x1, x2, x3) fun (r29 : Int) => .skip 3 <| .br 80 (r28 != r29) (.skip 10 <| .done [] false) (.skip 2 <| .call c_tenant_SegmentRD (x1, x2) fun (r31 : Int) => .skip 2 <| .call c_ref22_SegmentRD (x1, x2) fun (r32 : Int) => .skip 2 <| .br 88 (r31 != r32) (.skip 2 <| .done [] false) (.skip 3 <| .call c_tenant_SegmentOf (x1, x5) fun (r34 : (Prod Int Bool)) => .skip 7 <| .call c_ref22_SegmentOf (x1, x5) fun (r35 : (Prod Int Bool)) => .skip 9 <| .br 104 (r34.1 == r35.1) (.skip 5 <| .br 109 (r34.2 == r35.2) (.skip 2 <| .call c_law22_found (x1, x4) fun (r36 : Bool) => .skip 2 <| .br 114 r36 (.call c_law22_awake () fun (r37 : Bool) => .skip 2 <| .done [] r37) (.skip 3 <| .done [] false)) (.skip 8 <| .done [] false)) (.skip 13 <| .done [] false))))))))))
noncomputable def c_law22_TenantNumbers : Ctr prog := Ctr.of cfg 10 3 (Go.L.Fabric × Int × Int × Int × (Go.AM.V10 Int)) (fun x => [.agg (eFabric x.1), .sc (.int .i64 x.2.1), .sc (.int .i64 x.2.2.1), .sc (.int .u32 x.2.2.2.1), .agg ((eV10 (cI .u8)) x.2.2.2.2)]) (.one Bool) (fun r => .ret (.sc (.bool r))) (fun x => g_law22_TenantNumbers x.1 x.2.1 x.2.2.1 x.2.2.2.1 x.2.2.2.2) (fun x => by kernel_rfl)

end Go.L
