/- The library's Compact of numbers, laid at this program, as a contract. No conditions. -/
import Derived.Test.YtfgigcdbcbgpoaaDoorSb
import Derived.Test.YtfgigcdbcbgpoaaDoorAmCo
namespace Go.Proofs
open Go.Shelf
set_option maxRecDepth 100000
def Tryd.compactU_ren : Shelf.Ren where
  f := fun x => match x with
    | 43 => 63
    | n => n
  t := fun x => match x with
    | 22 => 22
    | 23 => 27
    | 3 => 3
    | 4 => 4
    | 0 => 0
    | n => n
  g := fun n => n
theorem Tryd.compactU : SlLaysE.n43 Tryd.prog Tryd.compactU_ren where
  mixed := by kernel_rfl
  f43 := ⟨"slices.Compact[[]uint32,uint32]", of_decide_eq_true (by kernel_rfl), Eq.trans Tryd.func63 (by kernel_rfl)⟩
  t0 := Tryd.underlying0
  a0 := Tryd.isAgg0
  z0 := Tryd.sizeOf0
  v0 := Tryd.zeroValue0
  t3 := Tryd.underlying3
  a3 := Tryd.isAgg3
  z3 := Tryd.sizeOf3
  v3 := Tryd.zeroValue3
  t4 := Tryd.underlying4
  a4 := Tryd.isAgg4
  z4 := Tryd.sizeOf4
  v4 := Tryd.zeroValue4
  t22 := Tryd.underlying22
  a22 := Tryd.isAgg22
  z22 := Tryd.sizeOf22
  v22 := Tryd.zeroValue22
  a23 := Tryd.isAgg27
  z23 := Tryd.sizeOf27
end Go.Proofs
namespace Go.L
open Go.AM Go.Proofs Go.Shelf
set_option linter.unusedVariables false
theorem compactU_ref (l : List Int) : FnRef prog 63 [.sl 0 0 1 0 l.length] [.row 0 1 (l.map (eI .u32))] (.ret (.sl 0 0 1 0 (Lib.compact l).length)) [.row 0 1 ((Lib.compact l).map (eI .u32))] :=
  compact_ref (P := prog) (ρ := Tryd.compactU_ren) Tryd.compactU (Value.int .u32) (fun _ => rfl) (EqlAt.intD _ _ .u32) (NeqAt.intD _ _ .u32) 0 Tryd.zeroValue27 (fun _ => rfl) ⟨Tryd.f63, _, Tryd.func63, rfl, by decide⟩ l
def compactS (x : List Int × Nat) : Option (List Int) := if x.2 = x.1.length then some (Lib.compact x.1) else none
theorem compactS_ok (x : List Int × Nat) (r : List Int) (h : compactS x = some r) : FnRef prog 63 [.sl 0 0 1 0 x.2] [.row 0 1 (x.1.map (eI .u32))] (.ret (.sl 0 0 1 0 r.length)) [.row 0 1 (r.map (eI .u32))] := by
  unfold compactS at h
  split at h
  · rename_i hc
    cases h
    rw [hc]
    exact compactU_ref x.1
  · cases h
noncomputable def c_slices_Compact_uint32_uint32 : Ctr1 prog := { f := 63, X := List Int × Nat, args := fun x => [.sl 0 0 1 0 x.2], blk := fun x => .row 0 1 (x.1.map (eI .u32)), sh := .one (List Int), out := fun (r : List Int) => .ret (.sl 0 0 1 0 r.length), outB := fun _ (r : List Int) => .row 0 1 (r.map (eI .u32)), S := fun _ x => compactS x, a0 := fun _ => rfl, b0 := fun x => by simp [ABlk.row0, eI, AVal.pureL, AVal.pure], b1 := fun _ (r : List Int) => by simp [ABlk.row0, eI, AVal.pureL, AVal.pure], r0 := fun _ => rfl, ok := fun _ x r h => compactS_ok x r h }
end Go.L
