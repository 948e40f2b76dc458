/- Put together out of parts. No conditions. -/
import Derived.Test.YtpgpmlaafigpaaaGreatDoorWs
import Derived.Test.YtpgpmlaafigpaaaGreatDoorAmCoE
import Derived.Test.YtpgpmlaafigpaaaGreatDoorAmMp
/- The library's Compact of numbers, laid at this program, as a contract. No conditions. -/
namespace Go.Proofs
open Go.Shelf
set_option maxRecDepth 100000
def Tryz.compactU_ren : Shelf.Ren where
  f := fun x => match x with
    | 43 => 163
    | n => n
  t := fun x => match x with
    | 22 => 33
    | 23 => 26
    | 3 => 3
    | 4 => 4
    | 0 => 0
    | n => n
  g := fun n => n
theorem Tryz.compactU : SlLaysE.n43 Tryz.prog Tryz.compactU_ren where
  mixed := by kernel_rfl
  f43 := ⟨"slices.Compact[[]uint32,uint32]", of_decide_eq_true (by kernel_rfl), Eq.trans Tryz.func163 (by kernel_rfl)⟩
  t0 := Tryz.underlying0
  a0 := Tryz.isAgg0
  z0 := Tryz.sizeOf0
  v0 := Tryz.zeroValue0
  t3 := Tryz.underlying3
  a3 := Tryz.isAgg3
  z3 := Tryz.sizeOf3
  v3 := Tryz.zeroValue3
  t4 := Tryz.underlying4
  a4 := Tryz.isAgg4
  z4 := Tryz.sizeOf4
  v4 := Tryz.zeroValue4
  t22 := Tryz.underlying33
  a22 := Tryz.isAgg33
  z22 := Tryz.sizeOf33
  v22 := Tryz.zeroValue33
  a23 := Tryz.isAgg26
  z23 := Tryz.sizeOf26
end Go.Proofs
namespace Go.L
open Go.AM Go.Proofs Go.Shelf
set_option linter.unusedVariables false
theorem compactU_ref (l : List Int) : FnRef prog 163 [.sl 0 0 1 0 l.length] [.row 0 1 (l.map (eI .u32))] (.ret (.sl 0 0 1 0 (Lib.compact l).length)) [.row 0 1 ((Lib.compact l).map (eI .u32))] :=
  compact_ref (P := prog) (ρ := Tryz.compactU_ren) Tryz.compactU (Value.int .u32) (fun _ => rfl) (EqlAt.intD _ _ .u32) (NeqAt.intD _ _ .u32) 0 Tryz.zeroValue26 (fun _ => rfl) ⟨Tryz.f163, _, Tryz.func163, rfl, by decide⟩ l
def compactS (x : List Int × Nat) : Option (List Int) := if x.2 = x.1.length then some (Lib.compact x.1) else none
theorem compactS_ok (x : List Int × Nat) (r : List Int) (h : compactS x = some r) : FnRef prog 163 [.sl 0 0 1 0 x.2] [.row 0 1 (x.1.map (eI .u32))] (.ret (.sl 0 0 1 0 r.length)) [.row 0 1 (r.map (eI .u32))] := by
  unfold compactS at h
  split at h
  · rename_i hc
    cases h
    rw [hc]
    exact compactU_ref x.1
  · cases h
noncomputable def c_slices_Compact_uint32_uint32 : Ctr1 prog := { f := 163, X := List Int × Nat, args := fun x => [.sl 0 0 1 0 x.2], blk := fun x => .row 0 1 (x.1.map (eI .u32)), sh := .one (List Int), out := fun (r : List Int) => .ret (.sl 0 0 1 0 r.length), outB := fun _ (r : List Int) => .row 0 1 (r.map (eI .u32)), S := fun _ x => compactS x, a0 := fun _ => rfl, b0 := fun x => by simp [ABlk.row0, eI, AVal.pureL, AVal.pure], b1 := fun _ (r : List Int) => .inl (by simp [ABlk.row0, eI, AVal.pureL, AVal.pure]), r0 := fun _ => rfl, ok := fun _ x r h => compactS_ok x r h }
end Go.L
/- What the functions compute, each told by a guide that the kernel checks against the program. No conditions. -/
namespace Go.L
open Go.AM
set_option maxRecDepth 100000
set_option linter.unusedVariables false
set_option linter.unusedSimpArgs false
/- leafmesh/comm.Kind -/
noncomputable def g_comm_Kind (x1 : (Go.AM.V8 Int)) : G prog (Sh.El (.one Int)) :=
  .skip 4 <| .unroll 300 <| .skip 11 <| .br 14 (((0 : Int) == x1.a0) && (((2 : Int) == x1.a1) && true)) (.skip 4 <| .done [] (1 : Int)) (.skip 14 <| .br 14 (((3 : Int) == x1.a0) && (((12 : Int) == x1.a1) && true)) (.skip 4 <| .done [] (2 : Int)) (.skip 14 <| .br 14 (((6 : Int) == x1.a0) && (((0 : Int) == x1.a1) && true)) (.skip 4 <| .done [] (3 : Int)) (.skip 14 <| .br 14 (((6 : Int) == x1.a0) && (((1 : Int) == x1.a1) && true)) (.skip 4 <| .done [] (4 : Int)) (.skip 14 <| .br 14 (((6 : Int) == x1.a0) && (((2 : Int) == x1.a1) && true)) (.skip 4 <| .done [] (5 : Int)) (.skip 14 <| .br 14 (((6 : Int) == x1.a0) && (((3 : Int) == x1.a1) && true)) (.skip 4 <| .done [] (6 : Int)) (.skip 14 <| .br 14 (((6 : Int) == x1.a0) && (((6 : Int) == x1.a1) && true)) (.skip 4 <| .done [] (7 : Int)) (.skip 6 <| .done [] (0 : Int))))))))
noncomputable def c_comm_Kind : Ctr prog := Ctr.of cfgT 10 160 ((Go.AM.V8 Int)) (fun x => [.agg ((eV8 (cI .u8)) x)]) (.one Int) (fun r => .ret (.sc (.int .i64 r))) (fun x => g_comm_Kind x) (fun x => by kernel_rfl)

/- leafmesh/comm.Targets -/
noncomputable def g_comm_Targets (x1 : (List (Go.AM.V8 Int))) : G prog (Sh.El (.one (List Int))) :=
  .skip 3 <| .op (lenO x1 (Go.AM.eV8 (Go.AM.cI .u8))) fun _ => .skip 1 <| .loop (.one (List Int)) [.keep [3, 6, 7, 8], .cut [] [] [], .own (.s 3) 1] (fun (a : (Prod Int (List Int))) => ⟨[.junk, .junk, .junk, .sl 0 0 1 0 a.2.length, .junk, .junk, (.lst (List.map (Go.AM.eV8 (Go.AM.cI .u8)) x1)), (.sc (.int .i64 (((List.length x1) : Nat) : Int))), .sc (.int .i64 a.1)] ++ List.replicate 22 .junk, [.row 0 1 (a.2.map (eI .u32))], []⟩)
    (fun (t : (List Int)) => (.exit 0, ⟨[.junk, .junk, .junk, .sl 0 0 1 0 t.length] ++ List.replicate 27 .junk, [.row 0 1 (t.map (eI .u32))], []⟩)) ((0 : Int), [])
    (fun (a16 : (Prod Int (List Int))) => .skip 1 <| .br 9 (decide (a16.1 < (((List.length x1) : Nat) : Int))) (.skip 1 <| .op (idxO x1 (Go.AM.eV8 (Go.AM.cI .u8)) 8 a16.1) fun x17 => .skip 4 <| .call c_comm_Kind x17 fun (r18 : Int) => .skip 2 <| .br 15 (r18 == (1 : Int)) (.skip 1 <| .inl [] <| .skip 10 <| .unroll 300 <| .skip 30 <| .tidy [.keep [6], .cut [] [] []] <| .inl [] <| .skip 2 <| .br 19 ((Go.IntKind.wrap .u64 (((@BitVec.toNat (Go.IntKind.bits .u64) ((BitVec.ofInt (Go.IntKind.bits .u64) (Go.IntKind.wrap .u64 ((Go.IntKind.wrap .u64 (((@BitVec.toNat (Go.IntKind.bits .u64) ((BitVec.ofInt (Go.IntKind.bits .u64) (Go.IntKind.wrap .u64 ((0 : Int) * ((2 : Int) ^ (@Min.min Nat instMinNat (Int.toNat (8 : Int)) (Go.IntKind.bits .u64)))))) ||| (BitVec.ofInt (Go.IntKind.bits .u64) (Go.IntKind.wrap .u64 x17.a2)))) : Nat) : Int)) * ((2 : Int) ^ (@Min.min Nat instMinNat (Int.toNat (8 : Int)) (Go.IntKind.bits .u64)))))) ||| (BitVec.ofInt (Go.IntKind.bits .u64) (Go.IntKind.wrap .u64 x17.a3)))) : Nat) : Int)) == (65000 : Int)) (.skip 3 <| .inl [] <| .skip 10 <| .unroll 300 <| .skip 56 <| .tidy [.keep [6], .cut [] [] []] <| .inl [] <| .skip 2 <| .op (appO (List.length a16.2) a16.2 [(Go.IntKind.wrap .u32 (Go.IntKind.wrap .u64 (((@BitVec.toNat (Go.IntKind.bits .u64) ((BitVec.ofInt (Go.IntKind.bits .u64) (Go.IntKind.wrap .u64 ((Go.IntKind.wrap .u64 (((@BitVec.toNat (Go.IntKind.bits .u64) ((BitVec.ofInt (Go.IntKind.bits .u64) (Go.IntKind.wrap .u64 ((Go.IntKind.wrap .u64 (((@BitVec.toNat (Go.IntKind.bits .u64) ((BitVec.ofInt (Go.IntKind.bits .u64) (Go.IntKind.wrap .u64 ((Go.IntKind.wrap .u64 (((@BitVec.toNat (Go.IntKind.bits .u64) ((BitVec.ofInt (Go.IntKind.bits .u64) (Go.IntKind.wrap .u64 ((0 : Int) * ((2 : Int) ^ (@Min.min Nat instMinNat (Int.toNat (8 : Int)) (Go.IntKind.bits .u64)))))) ||| (BitVec.ofInt (Go.IntKind.bits .u64) (Go.IntKind.wrap .u64 x17.a4)))) : Nat) : Int)) * ((2 : Int) ^ (@Min.min Nat instMinNat (Int.toNat (8 : Int)) (Go.IntKind.bits .u64)))))) ||| (BitVec.ofInt (Go.IntKind.bits .u64) (Go.IntKind.wrap .u64 x17.a5)))) : Nat) : Int)) * ((2 : Int) ^ (@Min.min Nat instMinNat (Int.toNat (8 : Int)) (Go.IntKind.bits .u64)))))) ||| (BitVec.ofInt (Go.IntKind.bits .u64) (Go.IntKind.wrap .u64 x17.a6)))) : Nat) : Int)) * ((2 : Int) ^ (@Min.min Nat instMinNat (Int.toNat (8 : Int)) (Go.IntKind.bits .u64)))))) ||| (BitVec.ofInt (Go.IntKind.bits .u64) (Go.IntKind.wrap .u64 x17.a7)))) : Nat) : Int)))] (eI .u32) 1 4 0 0 3 [2]) fun _ => .skip 3 <| .done [.keep [3, 6, 7, 8], .cut [0] [] [puRow 0 1 1 (a16.2 ++ [(Go.IntKind.wrap .u32 (Go.IntKind.wrap .u64 (((@BitVec.toNat (Go.IntKind.bits .u64) ((BitVec.ofInt (Go.IntKind.bits .u64) (Go.IntKind.wrap .u64 ((Go.IntKind.wrap .u64 (((@BitVec.toNat (Go.IntKind.bits .u64) ((BitVec.ofInt (Go.IntKind.bits .u64) (Go.IntKind.wrap .u64 ((Go.IntKind.wrap .u64 (((@BitVec.toNat (Go.IntKind.bits .u64) ((BitVec.ofInt (Go.IntKind.bits .u64) (Go.IntKind.wrap .u64 ((Go.IntKind.wrap .u64 (((@BitVec.toNat (Go.IntKind.bits .u64) ((BitVec.ofInt (Go.IntKind.bits .u64) (Go.IntKind.wrap .u64 ((0 : Int) * ((2 : Int) ^ (@Min.min Nat instMinNat (Int.toNat (8 : Int)) (Go.IntKind.bits .u64)))))) ||| (BitVec.ofInt (Go.IntKind.bits .u64) (Go.IntKind.wrap .u64 x17.a4)))) : Nat) : Int)) * ((2 : Int) ^ (@Min.min Nat instMinNat (Int.toNat (8 : Int)) (Go.IntKind.bits .u64)))))) ||| (BitVec.ofInt (Go.IntKind.bits .u64) (Go.IntKind.wrap .u64 x17.a5)))) : Nat) : Int)) * ((2 : Int) ^ (@Min.min Nat instMinNat (Int.toNat (8 : Int)) (Go.IntKind.bits .u64)))))) ||| (BitVec.ofInt (Go.IntKind.bits .u64) (Go.IntKind.wrap .u64 x17.a6)))) : Nat) : Int)) * ((2 : Int) ^ (@Min.min Nat instMinNat (Int.toNat (8 : Int)) (Go.IntKind.bits .u64)))))) ||| (BitVec.ofInt (Go.IntKind.bits .u64) (Go.IntKind.wrap .u64 x17.a7)))) : Nat) : Int)))]) (Go.AM.eI .u32) fun _ => rfl]] (.inl ((Go.IntKind.wrap .i64 (a16.1 + (1 : Int))), (a16.2 ++ [(Go.IntKind.wrap .u32 (Go.IntKind.wrap .u64 (((@BitVec.toNat (Go.IntKind.bits .u64) ((BitVec.ofInt (Go.IntKind.bits .u64) (Go.IntKind.wrap .u64 ((Go.IntKind.wrap .u64 (((@BitVec.toNat (Go.IntKind.bits .u64) ((BitVec.ofInt (Go.IntKind.bits .u64) (Go.IntKind.wrap .u64 ((Go.IntKind.wrap .u64 (((@BitVec.toNat (Go.IntKind.bits .u64) ((BitVec.ofInt (Go.IntKind.bits .u64) (Go.IntKind.wrap .u64 ((Go.IntKind.wrap .u64 (((@BitVec.toNat (Go.IntKind.bits .u64) ((BitVec.ofInt (Go.IntKind.bits .u64) (Go.IntKind.wrap .u64 ((0 : Int) * ((2 : Int) ^ (@Min.min Nat instMinNat (Int.toNat (8 : Int)) (Go.IntKind.bits .u64)))))) ||| (BitVec.ofInt (Go.IntKind.bits .u64) (Go.IntKind.wrap .u64 x17.a4)))) : Nat) : Int)) * ((2 : Int) ^ (@Min.min Nat instMinNat (Int.toNat (8 : Int)) (Go.IntKind.bits .u64)))))) ||| (BitVec.ofInt (Go.IntKind.bits .u64) (Go.IntKind.wrap .u64 x17.a5)))) : Nat) : Int)) * ((2 : Int) ^ (@Min.min Nat instMinNat (Int.toNat (8 : Int)) (Go.IntKind.bits .u64)))))) ||| (BitVec.ofInt (Go.IntKind.bits .u64) (Go.IntKind.wrap .u64 x17.a6)))) : Nat) : Int)) * ((2 : Int) ^ (@Min.min Nat instMinNat (Int.toNat (8 : Int)) (Go.IntKind.bits .u64)))))) ||| (BitVec.ofInt (Go.IntKind.bits .u64) (Go.IntKind.wrap .u64 x17.a7)))) : Nat) : Int)))])))) (.skip 3 <| .done [.keep [3, 6, 7, 8], .cut [0] [] [puRow 0 0 1 a16.2 (Go.AM.eI .u32) fun _ => rfl]] (.inl ((Go.IntKind.wrap .i64 (a16.1 + (1 : Int))), a16.2)))) (.skip 7 <| .done [.keep [3, 6, 7, 8], .cut [0] [] [puRow 0 0 1 a16.2 (Go.AM.eI .u32) fun _ => rfl]] (.inl ((Go.IntKind.wrap .i64 (a16.1 + (1 : Int))), a16.2)))) (.skip 1 <| .done [.keep [3], .cut [0] [] [puRow 0 0 1 a16.2 (Go.AM.eI .u32) fun _ => rfl]] (.inr a16.2)))
    (fun (t23 : (List Int)) => .skip 1 <| .call1 c_slices_Sort_uint32_uint32 0 0 [] (t23, (List.length t23)) fun (r24 : (List Int)) => .skip 1 <| .call1 c_slices_Compact_uint32_uint32 0 0 [] (r24, (List.length t23)) fun (r25 : (List Int)) => .skip 1 <| .done [.frz (fzRow (.s 2) 0 0 1 (List.length r25) r25 (Go.AM.eI .u32) fun _ => rfl)] r25)
noncomputable def c_comm_Targets : Ctr prog := Ctr.of cfgT 10 74 ((List (Go.AM.V8 Int))) (fun x => [.lst (x.map (eV8 (cI .u8)))]) (.one (List Int)) (fun r => .ret (.lst (r.map (eI .u32)))) (fun x => g_comm_Targets x) (fun x => by kernel_rfl)
end Go.L
