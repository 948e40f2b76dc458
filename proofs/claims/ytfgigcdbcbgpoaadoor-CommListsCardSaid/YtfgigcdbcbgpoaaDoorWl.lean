/- The contract of law03_lives, by a run of the abstract machine. -/
import Derived.Test.YtfgigcdbcbgpoaaDoorWo
import Derived.Test.YtfgigcdbcbgpoaaDoorAmZ
namespace Go.L.Aw
open Go.AM
set_option maxRecDepth 100000

def i64 (n : Int) : AVal := .sc (.int .i64 n)
def u8 (n : Int) : AVal := .sc (.int .u8 n)
def u32 (n : Int) : AVal := .sc (.int .u32 n)
def u64 (n : Int) : AVal := .sc (.int .u64 n)
def bt : AVal := .sc (.bool true)
def bf : AVal := .sc (.bool false)
def st (l : List UInt8) : AVal := .sc (.string ⟨l.toArray⟩)
def ns : AVal := .sc (.slice none 0 0)

theorem mixed : prog.follows .mixedOrders = true := by kernel_rfl
theorem noRt (f : FuncId) (fn : Func) (h : prog.funcs[f]? = some fn) : fn.name ≠ "runtime.NumGoroutine" := by
  have hall : prog.funcs.toList.all (fun fn => fn.name != "runtime.NumGoroutine") = true := by kernel_rfl
  have hm : fn ∈ prog.funcs.toList := by simpa using Array.mem_of_getElem? h
  have := List.all_eq_true.1 hall fn hm
  simpa using this

def cfgA : Cfg := { val := fun f => [].contains f, kill := fun _ _ => [], fz := fun f => [].contains f }
def t0 : List Entry := []
theorem o0 : TblOk prog t0 := TblOk.nil
def eA : Entry := { f := 11, args := [], res := bt }
theorem bA : entryB (callT prog cfgA t0 2000 300) eA = true := by kernel_rfl
theorem val : FnVal prog 11 [] (.ret (.sc (.bool true))) := entry_ok (callT_sound mixed noRt o0 2000 300) bA
end Go.L.Aw
namespace Go.L
open Go.AM
noncomputable def c_law03_lives : Ctr prog := { f := 11, X := Unit, args := fun _ => [], sh := .one Bool, out := fun r => .ret (.sc (.bool r)), S := fun _ _ => some true, ok := fun n x r h => by cases h; exact Aw.val }
end Go.L
