/- The contract of law22_TenantKnown, by a run of the abstract machine. -/
import Derived.Test.YtomlhceogkfnlaaWb
import Derived.Test.YtomlhceogkfnlaaAmZ
namespace Go.L.Tk
open Go.AM
set_option maxRecDepth 100000

def i64 (n : Int) : AVal := .sc (.int .i64 n)
def u8 (n : Int) : AVal := .sc (.int .u8 n)
def u32 (n : Int) : AVal := .sc (.int .u32 n)
def u64 (n : Int) : AVal := .sc (.int .u64 n)
def bt : AVal := .sc (.bool true)
def bf : AVal := .sc (.bool false)
def st (l : List UInt8) : AVal := .sc (.string ⟨l.toArray⟩)
def ns : AVal := .sc (.slice none 0 0)

theorem mixed : prog.follows .mixedOrders = true := by kernel_rfl
theorem noRt (f : FuncId) (fn : Func) (h : prog.funcs[f]? = some fn) : fn.name ≠ "runtime.NumGoroutine" := by
  have hall : prog.funcs.toList.all (fun fn => fn.name != "runtime.NumGoroutine") = true := by kernel_rfl
  have hm : fn ∈ prog.funcs.toList := by simpa using Array.mem_of_getElem? h
  have := List.all_eq_true.1 hall fn hm
  simpa using this

def cfgA : Cfg := { val := fun f => [13].contains f, kill := fun _ _ => [], fz := fun f => [].contains f }
def t0 : List Entry := []
theorem o0 : TblOk prog t0 := TblOk.nil
def e1 : Entry := { f := 13, args := [(.agg [(i64 2), (i64 1), (.lst [[(i64 0), (i64 2), (i64 1)], [(i64 1), (i64 2), (i64 1)]]), (.lst [[(u32 100), (u32 1)]]), (.lst [[(i64 0), (u32 10), (u32 2), (u32 167772160), (i64 24), (u32 167772161)], [(i64 0), (u32 20), (u32 3), (u32 0), (i64 0), (u32 0)]]), (.lst [[(.lst [[(i64 0)]]), (.lst [[(i64 0)], [(i64 1)]])], [(.lst [[(i64 0)], [(i64 1)]]), (.lst [[(i64 0)]])]]), (.lst [[(u64 2199023299073), (u32 167772165), (i64 0), (i64 1)]]), ns, (i64 0), (i64 0), (i64 0), bf, bf, (i64 3), (i64 9), (i64 100), (i64 20), (i64 5), (i64 50)])], res := (.tup [(i64 0), (st []), (i64 0)]) }
def t1 : List Entry := e1 :: t0
theorem b1 : entryB (callT prog cfgA t0 2000 300) e1 = true := by kernel_rfl
theorem o1 : TblOk prog t1 := TblOk.cons (entry_ok (callT_sound mixed noRt o0 2000 300) b1) o0
def e2 : Entry := { f := 13, args := [(.agg [(i64 2), (i64 1), (.lst [[(i64 0), (i64 2), (i64 1)], [(i64 1), (i64 1), (i64 1)]]), (.lst [[(u32 100), (u32 1)]]), (.lst [[(i64 0), (u32 10), (u32 2), (u32 167772160), (i64 24), (u32 167772161)], [(i64 0), (u32 20), (u32 3), (u32 0), (i64 0), (u32 0)]]), (.lst [[(.lst [[(i64 0)]]), (.lst [[(i64 0)], [(i64 1)]])], [(.lst [[(i64 0)], [(i64 1)]]), (.lst [[(i64 0)]])]]), (.lst [[(u64 2199023299073), (u32 167772165), (i64 0), (i64 1)]]), ns, (i64 0), (i64 0), (i64 0), bf, bf, (i64 3), (i64 9), (i64 100), (i64 20), (i64 5), (i64 50)])], res := (.tup [(i64 2), (st [108, 105, 110, 107, 115]), (i64 1)]) }
def t2 : List Entry := e2 :: t1
theorem b2 : entryB (callT prog cfgA t1 2000 300) e2 = true := by kernel_rfl
theorem o2 : TblOk prog t2 := TblOk.cons (entry_ok (callT_sound mixed noRt o1 2000 300) b2) o1
def e3 : Entry := { f := 13, args := [(.agg [(i64 2), (i64 1), (.lst [[(i64 0), (i64 2), (i64 1)], [(i64 1), (i64 2), (i64 1)]]), (.lst [[(u32 100), (u32 1)]]), (.lst [[(i64 0), (u32 10), (u32 2), (u32 167772160), (i64 24), (u32 167772161)], [(i64 0), (u32 100), (u32 3), (u32 0), (i64 0), (u32 0)]]), (.lst [[(.lst [[(i64 0)]]), (.lst [[(i64 0)], [(i64 1)]])], [(.lst [[(i64 0)], [(i64 1)]]), (.lst [[(i64 0)]])]]), (.lst [[(u64 2199023299073), (u32 167772165), (i64 0), (i64 1)]]), ns, (i64 0), (i64 0), (i64 0), bf, bf, (i64 3), (i64 9), (i64 100), (i64 20), (i64 5), (i64 50)])], res := (.tup [(i64 11), (st [100, 111, 109, 97, 105, 110, 115]), (i64 1)]) }
def t3 : List Entry := e3 :: t2
theorem b3 : entryB (callT prog cfgA t2 2000 300) e3 = true := by kernel_rfl
theorem o3 : TblOk prog t3 := TblOk.cons (entry_ok (callT_sound mixed noRt o2 2000 300) b3) o2
def e4 : Entry := { f := 13, args := [(.agg [(i64 2), (i64 1), (.lst [[(i64 0), (i64 2), (i64 1)], [(i64 1), (i64 2), (i64 1)]]), (.lst [[(u32 100), (u32 1)]]), (.lst [[(i64 0), (u32 10), (u32 2), (u32 167772160), (i64 24), (u32 167772161)], [(i64 0), (u32 20), (u32 3), (u32 0), (i64 0), (u32 0)]]), (.lst [[(.lst [[(i64 0)]]), (.lst [[(i64 0)], [(i64 1)]])], [(.lst [[(i64 1)], [(i64 0)]]), (.lst [[(i64 0)]])]]), (.lst [[(u64 2199023299073), (u32 167772165), (i64 0), (i64 1)]]), ns, (i64 0), (i64 0), (i64 0), bf, bf, (i64 3), (i64 9), (i64 100), (i64 20), (i64 5), (i64 50)])], res := (.tup [(i64 10), (st [115, 101, 103, 109, 101, 110, 116, 115]), (i64 1)]) }
def t4 : List Entry := e4 :: t3
theorem b4 : entryB (callT prog cfgA t3 2000 300) e4 = true := by kernel_rfl
theorem o4 : TblOk prog t4 := TblOk.cons (entry_ok (callT_sound mixed noRt o3 2000 300) b4) o3
def e5 : Entry := { f := 13, args := [(.agg [(i64 2), (i64 1), (.lst [[(i64 0), (i64 2), (i64 1)], [(i64 1), (i64 2), (i64 1)]]), (.lst [[(u32 100), (u32 1)]]), (.lst [[(i64 0), (u32 10), (u32 2), (u32 167772160), (i64 24), (u32 167772161)], [(i64 0), (u32 20), (u32 3), (u32 0), (i64 0), (u32 0)]]), (.lst [[(.lst [[(i64 0)]]), (.lst [[(i64 0)], [(i64 1)]])], [(.lst [[(i64 0)], [(i64 1)]]), (.lst [[(i64 0)]])]]), (.lst [[(u64 2199023299073), (u32 167772165), (i64 1), (i64 1)]]), ns, (i64 0), (i64 0), (i64 0), bf, bf, (i64 3), (i64 9), (i64 100), (i64 20), (i64 5), (i64 50)])], res := (.tup [(i64 8), (st [104, 111, 115, 116, 115]), (i64 0)]) }
def t5 : List Entry := e5 :: t4
theorem b5 : entryB (callT prog cfgA t4 2000 300) e5 = true := by kernel_rfl
theorem o5 : TblOk prog t5 := TblOk.cons (entry_ok (callT_sound mixed noRt o4 2000 300) b5) o4
def e6 : Entry := { f := 13, args := [(.agg [(i64 2), (i64 1), (.lst [[(i64 0), (i64 2), (i64 1)], [(i64 1), (i64 2), (i64 1)]]), (.lst [[(u32 100), (u32 1)]]), (.lst [[(i64 0), (u32 10), (u32 2), (u32 167772160), (i64 24), (u32 167772161)], [(i64 0), (u32 20), (u32 3), (u32 0), (i64 0), (u32 0)]]), (.lst [[(.lst [[(i64 0)]]), (.lst [[(i64 0)], [(i64 1)]])], [(.lst [[(i64 0)], [(i64 1)]]), (.lst [[(i64 0)]])]]), (.lst [[(u64 2199023299073), (u32 167772161), (i64 0), (i64 1)]]), ns, (i64 0), (i64 0), (i64 0), bf, bf, (i64 3), (i64 9), (i64 100), (i64 20), (i64 5), (i64 50)])], res := (.tup [(i64 3), (st [104, 111, 115, 116, 115]), (i64 0)]) }
def t6 : List Entry := e6 :: t5
theorem b6 : entryB (callT prog cfgA t5 2000 300) e6 = true := by kernel_rfl
theorem o6 : TblOk prog t6 := TblOk.cons (entry_ok (callT_sound mixed noRt o5 2000 300) b6) o5
def e7 : Entry := { f := 13, args := [(.agg [(i64 2), (i64 1), (.lst [[(i64 0), (i64 2), (i64 1)], [(i64 1), (i64 2), (i64 1)]]), (.lst [[(u32 100), (u32 1)]]), (.lst [[(i64 0), (u32 10), (u32 2), (u32 167772160), (i64 24), (u32 167772161)], [(i64 0), (u32 20), (u32 3), (u32 0), (i64 0), (u32 0)]]), (.lst [[(.lst [[(i64 0)]]), (.lst [[(i64 0)], [(i64 1)]])], [(.lst [[(i64 0)], [(i64 1)]]), (.lst [[(i64 0)]])]]), (.lst [[(u64 2199023299073), (u32 167772415), (i64 0), (i64 1)]]), ns, (i64 0), (i64 0), (i64 0), bf, bf, (i64 3), (i64 9), (i64 100), (i64 20), (i64 5), (i64 50)])], res := (.tup [(i64 3), (st [104, 111, 115, 116, 115]), (i64 0)]) }
def t7 : List Entry := e7 :: t6
theorem b7 : entryB (callT prog cfgA t6 2000 300) e7 = true := by kernel_rfl
theorem o7 : TblOk prog t7 := TblOk.cons (entry_ok (callT_sound mixed noRt o6 2000 300) b7) o6
def e8 : Entry := { f := 13, args := [(.agg [(i64 2), (i64 1), (.lst [[(i64 0), (i64 2), (i64 1)], [(i64 1), (i64 2), (i64 1)]]), (.lst [[(u32 100), (u32 1)]]), (.lst [[(i64 0), (u32 10), (u32 2), (u32 167772160), (i64 24), (u32 167772161)], [(i64 0), (u32 20), (u32 3), (u32 0), (i64 0), (u32 0)]]), (.lst [[(.lst [[(i64 0)]]), (.lst [[(i64 0)], [(i64 1)]])], [(.lst [[(i64 0)], [(i64 1)]]), (.lst [[(i64 0)]])]]), (.lst [[(u64 2199023299073), (u32 0), (i64 0), (i64 1)]]), ns, (i64 0), (i64 0), (i64 0), bf, bf, (i64 3), (i64 9), (i64 100), (i64 20), (i64 5), (i64 50)])], res := (.tup [(i64 0), (st []), (i64 0)]) }
def t8 : List Entry := e8 :: t7
theorem b8 : entryB (callT prog cfgA t7 2000 300) e8 = true := by kernel_rfl
theorem o8 : TblOk prog t8 := TblOk.cons (entry_ok (callT_sound mixed noRt o7 2000 300) b8) o7
def e9 : Entry := { f := 13, args := [(.agg [(i64 2), (i64 1), (.lst [[(i64 0), (i64 2), (i64 1)], [(i64 1), (i64 2), (i64 1)]]), (.lst [[(u32 100), (u32 1)]]), (.lst [[(i64 0), (u32 10), (u32 2), (u32 167772160), (i64 24), (u32 167772161)], [(i64 0), (u32 20), (u32 3), (u32 0), (i64 0), (u32 0)]]), (.lst [[(.lst [[(i64 0)]]), (.lst [[(i64 0)], [(i64 1)]])], [(.lst [[(i64 0)], [(i64 1)]]), (.lst [[(i64 0)]])]]), (.lst [[(u64 2199023299073), (u32 0), (i64 0), (i64 1)]]), (.lst [[(i64 0), (i64 0), (u32 0), (i64 0)]]), (i64 0), (i64 0), (i64 0), bf, bf, (i64 3), (i64 9), (i64 100), (i64 20), (i64 5), (i64 50)])], res := (.tup [(i64 3), (st [108, 101, 97, 107, 115]), (i64 0)]) }
def t9 : List Entry := e9 :: t8
theorem b9 : entryB (callT prog cfgA t8 2000 300) e9 = true := by kernel_rfl
theorem o9 : TblOk prog t9 := TblOk.cons (entry_ok (callT_sound mixed noRt o8 2000 300) b9) o8
def eA : Entry := { f := 18, args := [], res := bt }
theorem bA : entryB (callT prog cfgA t9 2000 300) eA = true := by kernel_rfl
theorem val : FnVal prog 18 [] (.ret (.sc (.bool true))) := entry_ok (callT_sound mixed noRt o9 2000 300) bA
end Go.L.Tk
namespace Go.L
open Go.AM
noncomputable def c_law22_TenantKnown : Ctr prog := { f := 18, X := Unit, args := fun _ => [], sh := .one Bool, out := fun r => .ret (.sc (.bool r)), S := fun _ _ => some true, ok := fun n x r h => by cases h; exact Tk.val }
end Go.L
