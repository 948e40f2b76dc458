/- Put together out of parts. No conditions. -/
import Derived.Test.YtfgigcdbcbgpoaaDoorTy
import Derived.KernelRfl
import Derived.Test.YtfgigcdbcbgpoaaDoorProg
import Derived.Test.YtfgigcdbcbgpoaaDoorAmZ
import Derived.Test.YtfgigcdbcbgpoaaDoorAmSh
/- What the functions compute, each told by a guide that the kernel checks against the program. No conditions. -/
namespace Go.L
open Go.AM
def cfg : Cfg := { val := fun f => ![60,61,62,63,67,76,77,80,88,89,97,109,114,115,116,117,118,119,121,122,140,142,143,144,153].contains f, kill := fun _ _ => [] }
noncomputable abbrev prog := Go.Proofs.Tryd.prog
set_option maxRecDepth 100000
set_option linter.unusedVariables false
set_option linter.unusedSimpArgs false
instance plainProg : Plain prog := ⟨by kernel_rfl, fun f fn h => by
  have hall : prog.funcs.toList.all (fun fn => fn.name != "runtime.NumGoroutine") = true := by kernel_rfl
  have hm : fn ∈ prog.funcs.toList := by simpa using Array.mem_of_getElem? h
  have := List.all_eq_true.1 hall fn hm
  simpa using this⟩
end Go.L
/- The contract of law03_lives, by a run of the abstract machine. -/
namespace Go.L.Aw
open Go.AM
set_option maxRecDepth 100000

def i64 (n : Int) : AVal := .sc (.int .i64 n)
def u8 (n : Int) : AVal := .sc (.int .u8 n)
def u32 (n : Int) : AVal := .sc (.int .u32 n)
def u64 (n : Int) : AVal := .sc (.int .u64 n)
def bt : AVal := .sc (.bool true)
def bf : AVal := .sc (.bool false)
def st (l : List UInt8) : AVal := .sc (.string ⟨l.toArray⟩)
def ns : AVal := .sc (.slice none 0 0)

theorem mixed : prog.follows .mixedOrders = true := by kernel_rfl
theorem noRt (f : FuncId) (fn : Func) (h : prog.funcs[f]? = some fn) : fn.name ≠ "runtime.NumGoroutine" := by
  have hall : prog.funcs.toList.all (fun fn => fn.name != "runtime.NumGoroutine") = true := by kernel_rfl
  have hm : fn ∈ prog.funcs.toList := by simpa using Array.mem_of_getElem? h
  have := List.all_eq_true.1 hall fn hm
  simpa using this

def cfgA : Cfg := { val := fun f => [].contains f, kill := fun _ _ => [], fz := fun f => [].contains f }
def t0 : List Entry := []
theorem o0 : TblOk prog t0 := TblOk.nil
def eA : Entry := { f := 11, args := [], res := bt }
theorem bA : entryB (callT prog cfgA t0 2000 300) eA = true := by kernel_rfl
theorem val : FnVal prog 11 [] (.ret (.sc (.bool true))) := entry_ok (callT_sound mixed noRt o0 2000 300) bA
end Go.L.Aw
namespace Go.L
open Go.AM
noncomputable def c_law03_lives : Ctr prog := { f := 11, X := Unit, args := fun _ => [], sh := .one Bool, out := fun r => .ret (.sc (.bool r)), S := fun _ _ => some true, ok := fun n x r h => by cases h; exact Aw.val }
end Go.L
/- The contract of law19_lives, by a run of the abstract machine. -/
namespace Go.L.Aw19
open Go.AM
set_option maxRecDepth 100000

def i64 (n : Int) : AVal := .sc (.int .i64 n)
def u8 (n : Int) : AVal := .sc (.int .u8 n)
def u32 (n : Int) : AVal := .sc (.int .u32 n)
def u64 (n : Int) : AVal := .sc (.int .u64 n)
def bt : AVal := .sc (.bool true)
def bf : AVal := .sc (.bool false)
def st (l : List UInt8) : AVal := .sc (.string ⟨l.toArray⟩)
def ns : AVal := .sc (.slice none 0 0)

theorem mixed : prog.follows .mixedOrders = true := by kernel_rfl
theorem noRt (f : FuncId) (fn : Func) (h : prog.funcs[f]? = some fn) : fn.name ≠ "runtime.NumGoroutine" := by
  have hall : prog.funcs.toList.all (fun fn => fn.name != "runtime.NumGoroutine") = true := by kernel_rfl
  have hm : fn ∈ prog.funcs.toList := by simpa using Array.mem_of_getElem? h
  have := List.all_eq_true.1 hall fn hm
  simpa using this

def cfgA : Cfg := { val := fun f => [].contains f, kill := fun _ _ => [], fz := fun f => [].contains f }
def t0 : List Entry := []
theorem o0 : TblOk prog t0 := TblOk.nil
def eA : Entry := { f := 50, args := [], res := bt }
theorem bA : entryB (callT prog cfgA t0 2000 300) eA = true := by kernel_rfl
theorem val : FnVal prog 50 [] (.ret (.sc (.bool true))) := entry_ok (callT_sound mixed noRt o0 2000 300) bA
end Go.L.Aw19
namespace Go.L
open Go.AM
noncomputable def c_law19_lives : Ctr prog := { f := 50, X := Unit, args := fun _ => [], sh := .one Bool, out := fun r => .ret (.sc (.bool r)), S := fun _ _ => some true, ok := fun n x r h => by cases h; exact Aw19.val }
end Go.L
/- slices.Clone as a function that hands back a row of its own. No conditions. -/
namespace Go.L
open Go.AM
set_option maxRecDepth 100000
set_option linter.unusedVariables false
set_option linter.unusedSimpArgs false
noncomputable def gn_slices_Clone_Comm_Comm (x : List (V8 Int)) : G prog (Sh.El (.one (List (V8 Int)))) :=
  .skip 2 <| .op (nilO x (eV8 (cI .u8)) true) fun _ => .skip 3 <| .op (appO 0 [] x (eV8 (cI .u8)) 8 8 0 0 1 []) fun _ => .skip 1 <| .done [.keep [2], .cut [0] [] [puRow 0 1 8 ([] ++ x) (eV8 (cI .u8)) fun _ => rfl]] ([] ++ x)
noncomputable def gn0_slices_Clone_Comm_Comm : G prog (Sh.El (.one (List (V8 Int)))) := .skip 5 <| .done [.keep [2], .own (.s 2) 8] ([] : List (V8 Int))
noncomputable def gn1_slices_Clone_Comm_Comm : G prog (Sh.El (.one (List (V8 Int)))) := .skip 8 <| .done [.keep [2], .cut [0] [] []] ([] : List (V8 Int))
def on_slices_Clone_Comm_Comm (r : List (V8 Int)) : ARes × List ABlk := (.ret (.sl 0 0 8 0 r.length), [.row 0 8 (r.map (eV8 (cI .u8)))])
theorem kn_slices_Clone_Comm_Comm (x : List (V8 Int)) : fnCN prog cfg 10 76 [.lst (x.map (eV8 (cI .u8)))] [] on_slices_Clone_Comm_Comm (gn_slices_Clone_Comm_Comm x) = (gn_slices_Clone_Comm_Comm x).claims (leafR on_slices_Clone_Comm_Comm) := by kernel_rfl
theorem kn0_slices_Clone_Comm_Comm : fnCN prog cfg 10 76 [.nz true] [] on_slices_Clone_Comm_Comm gn0_slices_Clone_Comm_Comm = gn0_slices_Clone_Comm_Comm.claims (leafR on_slices_Clone_Comm_Comm) := by kernel_rfl
theorem kn1_slices_Clone_Comm_Comm : fnCN prog cfg 10 76 [.nz false] [] on_slices_Clone_Comm_Comm gn1_slices_Clone_Comm_Comm = gn1_slices_Clone_Comm_Comm.claims (leafR on_slices_Clone_Comm_Comm) := by kernel_rfl
theorem runn_slices_Clone_Comm_Comm (n : Nat) (x : (V8 Int)) (l : List (V8 Int)) (hr : roomy (0 + (x :: l).length) 8 = true) : (gn_slices_Clone_Comm_Comm (x :: l)).run n = some (x :: l) := by
  have h0 : (0 : Nat) = ([] : List (V8 Int)).length ∧ roomy (([] : List (V8 Int)).length + (x :: l).length) 8 = true := ⟨rfl, hr⟩
  show (if ((0 : Nat) = ([] : List (V8 Int)).length ∧ roomy (([] : List (V8 Int)).length + (x :: l).length) 8 = true) then some () else none).bind (fun _ => some (x :: l)) = _
  rw [if_pos h0]; rfl
def sn_slices_Clone_Comm_Comm (l : List (V8 Int)) : Option (List (V8 Int)) := if roomy (0 + l.length) 8 = true then some l else none
theorem refn_slices_Clone_Comm_Comm (l r : List (V8 Int)) (h : sn_slices_Clone_Comm_Comm l = some r) : FnRef prog 76 [.lst (l.map (eV8 (cI .u8)))] [] (.ret (.sl 0 0 8 0 r.length)) [.row 0 8 (r.map (eV8 (cI .u8)))] := by
  unfold sn_slices_Clone_Comm_Comm at h
  split at h
  · rename_i hr
    cases h
    cases l with
    | nil =>
      refine FnRef.lstNil ?_ ?_
      · exact (fnCN_sound (cfg := cfg) (L := 10) (out := on_slices_Clone_Comm_Comm) (g := gn0_slices_Clone_Comm_Comm) (n := 0) (r := ([] : List (V8 Int))) plainProg.mixed plainProg.names (by rw [kn0_slices_Clone_Comm_Comm]; exact G.claims_hold (fun _ => rfl) _) rfl)
      · exact (fnCN_sound (cfg := cfg) (L := 10) (out := on_slices_Clone_Comm_Comm) (g := gn1_slices_Clone_Comm_Comm) (n := 0) (r := ([] : List (V8 Int))) plainProg.mixed plainProg.names (by rw [kn1_slices_Clone_Comm_Comm]; exact G.claims_hold (fun _ => rfl) _) rfl)
    | cons x l => exact fnCN_sound (cfg := cfg) (L := 10) (out := on_slices_Clone_Comm_Comm) (g := gn_slices_Clone_Comm_Comm (x :: l)) (n := 0) (r := x :: l) plainProg.mixed plainProg.names (by rw [kn_slices_Clone_Comm_Comm]; exact G.claims_hold (fun _ => rfl) _) (runn_slices_Clone_Comm_Comm 0 x l hr)
  · cases h
noncomputable def cn_slices_Clone_Comm_Comm (n : Nat) : CtrR prog := CtrR.fresh prog 76 (List (V8 Int)) (fun x => [.lst (x.map (eV8 (cI .u8)))]) (V8 Int) 8 (eV8 (cI .u8)) (fun _ => rfl) (fun _ => rfl) (fun _ x => sn_slices_Clone_Comm_Comm x) (fun _ x r h => refn_slices_Clone_Comm_Comm x r h) n
theorem cn_slices_Clone_Comm_Comm_b (n N : Nat) (l : List (V8 Int)) (hl : l.length < 1000000) {β : Type} (k : (cn_slices_Clone_Comm_Comm n).sh.El → Option β) : ((cn_slices_Clone_Comm_Comm n).S N l).bind k = k l := by
  have : (cn_slices_Clone_Comm_Comm n).S N l = some l := by
    show sn_slices_Clone_Comm_Comm l = some l
    unfold sn_slices_Clone_Comm_Comm
    rw [if_pos (by simp [roomy]; omega)]
  rw [this]; rfl
end Go.L
