/- The contract of law29_lives, by a run of the abstract machine. -/
import Derived.Test.YtfgigcdbcbgpoaaWb
import Derived.Test.YtfgigcdbcbgpoaaAmZ
namespace Go.L.Aw
open Go.AM
set_option maxRecDepth 100000

def i64 (n : Int) : AVal := .sc (.int .i64 n)
def u8 (n : Int) : AVal := .sc (.int .u8 n)
def u32 (n : Int) : AVal := .sc (.int .u32 n)
def u64 (n : Int) : AVal := .sc (.int .u64 n)
def bt : AVal := .sc (.bool true)
def bf : AVal := .sc (.bool false)
def st (l : List UInt8) : AVal := .sc (.string ⟨l.toArray⟩)
def ns : AVal := .sc (.slice none 0 0)

theorem mixed : prog.follows .mixedOrders = true := by kernel_rfl
theorem noRt (f : FuncId) (fn : Func) (h : prog.funcs[f]? = some fn) : fn.name ≠ "runtime.NumGoroutine" := by
  have hall : prog.funcs.toList.all (fun fn => fn.name != "runtime.NumGoroutine") = true := by kernel_rfl
  have hm : fn ∈ prog.funcs.toList := by simpa using Array.mem_of_getElem? h
  have := List.all_eq_true.1 hall fn hm
  simpa using this

def cfgA : Cfg := { val := fun f => [28].contains f, kill := fun _ _ => [], fz := fun f => [].contains f }
def t0 : List Entry := []
theorem o0 : TblOk prog t0 := TblOk.nil
def e1 : Entry := { f := 28, args := [(.agg [(i64 2), (i64 1), (.lst [[(i64 0), (i64 2), (i64 1)], [(i64 1), (i64 2), (i64 1)]]), (.lst [[(u32 100), (u32 1)]]), (.lst [[(i64 0), (u32 10), (u32 2), (u32 167772160), (i64 24), (u32 167772161)], [(i64 0), (u32 20), (u32 3), (u32 0), (i64 0), (u32 0)]]), (.lst [[(.lst [[(i64 0)]]), (.lst [[(i64 0)], [(i64 1)]])], [(.lst [[(i64 0)], [(i64 1)]]), (.lst [[(i64 0)]])]]), ns, ns, (i64 0), (i64 0), (i64 0), bt, bf, (i64 3), (i64 9), (i64 100), (i64 20), (i64 5), (i64 50)])], res := (.tup [(i64 0), (st []), (i64 0)]) }
def t1 : List Entry := e1 :: t0
theorem b1 : entryB (callT prog cfgA t0 2000 300) e1 = true := by kernel_rfl
theorem o1 : TblOk prog t1 := TblOk.cons (entry_ok (callT_sound mixed noRt o0 2000 300) b1) o0
def eA : Entry := { f := 4, args := [], res := bt }
theorem bA : entryB (callT prog cfgA t1 2000 300) eA = true := by kernel_rfl
theorem val : FnVal prog 4 [] (.ret (.sc (.bool true))) := entry_ok (callT_sound mixed noRt o1 2000 300) bA
end Go.L.Aw
namespace Go.L
open Go.AM
noncomputable def c_law29_lives : Ctr prog := { f := 4, X := Unit, args := fun _ => [], sh := .one Bool, out := fun r => .ret (.sc (.bool r)), S := fun _ _ => some true, ok := fun n x r h => by cases h; exact Aw.val }
end Go.L
