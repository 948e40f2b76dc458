/- The closed law's calls, worked out one by one, and the whole. No conditions. -/
import Derived.Test.YtinkiagjomllfaaAmZ
import Derived.Test.YtinkiagjomllfaaRows
namespace Go.Proofs.Ytinkiagjomllfaa.horizonKnown
open Go.AM

instance globs : Globs := ⟨⟨fun _ => none⟩⟩
theorem globsOk (w : World) : GlobsOk (Gh.bare w) w := fun _ _ h => by cases h

def i8 (n : Int) : AVal := .sc (.int .i8 n)
def i16 (n : Int) : AVal := .sc (.int .i16 n)
def i32 (n : Int) : AVal := .sc (.int .i32 n)
def i64 (n : Int) : AVal := .sc (.int .i64 n)
def u8 (n : Int) : AVal := .sc (.int .u8 n)
def u16 (n : Int) : AVal := .sc (.int .u16 n)
def u32 (n : Int) : AVal := .sc (.int .u32 n)
def u64 (n : Int) : AVal := .sc (.int .u64 n)
def bt : AVal := .sc (.bool true)
def bf : AVal := .sc (.bool false)
def st (l : List UInt8) : AVal := .sc (.string ⟨l.toArray⟩)
def ni : AVal := .sc .nilIface
def nf : AVal := .sc .nilFunc
def ns : AVal := .sc (.slice none 0 0)
def np : AVal := .sc (.pointer none)
def nm : AVal := .sc (.map none)
def nt : AVal := .sc (.tuple #[])

theorem mixed : Try.prog.follows .mixedOrders = true := by kernel_rfl
theorem noRt (f : FuncId) (fn : Func) (h : Try.prog.funcs[f]? = some fn) : fn.name ≠ "runtime.NumGoroutine" := by
  have hall : Try.prog.funcs.toList.all (fun fn => fn.name != "runtime.NumGoroutine") = true := by kernel_rfl
  have hm : fn ∈ Try.prog.funcs.toList := by simpa using Array.mem_of_getElem? h
  have := List.all_eq_true.1 hall fn hm
  simpa using this

def cfg : Cfg := { val := fun f => [4,5,9,10,11,12,22,26,27].contains f, kill := fun _ _ => [], fz := fun f => [6,7].contains f }
def t0 : List Entry := []
theorem o0 : TblOk Try.prog t0 := TblOk.nil
def e1 : Entry := { f := 26, args := [(.agg [(i64 2), (i64 1), (.lst [[(i64 0), (i64 2), (i64 1)], [(i64 1), (i64 2), (i64 1)]]), (.lst [[(u32 100), (u32 1)]]), (.lst [[(i64 0), (u32 10), (u32 2), (u32 167772160), (i64 24), (u32 167772161)], [(i64 0), (u32 20), (u32 3), (u32 0), (i64 0), (u32 0)]]), (.lst [[(.lst [[(i64 0)]]), (.lst [[(i64 0)], [(i64 1)]])], [(.lst [[(i64 0)], [(i64 1)]]), (.lst [[(i64 0)]])], [(.lst [[(i64 1)]]), (.lst [[(i64 0)]])]]), ns, ns, (i64 0), (i64 0), (i64 0), bf, bf, (i64 3), (i64 9), (i64 100), (i64 20), (i64 5), (i64 50)])], res := (.tup [(i64 0), (st []), (i64 0)]) }
def t1 : List Entry := e1 :: t0
theorem b1 : entryB (callT Try.prog cfg t0 2000 300) e1 = true := by kernel_rfl
theorem o1 : TblOk Try.prog t1 := TblOk.cons (entry_ok (callT_sound mixed noRt o0 2000 300) b1) o0
def e2 : Entry := { f := 11, args := [(.agg [(i64 2), (i64 1), (.lst [[(i64 0), (i64 2), (i64 1)], [(i64 1), (i64 2), (i64 1)]]), (.lst [[(u32 100), (u32 1)]]), (.lst [[(i64 0), (u32 10), (u32 2), (u32 167772160), (i64 24), (u32 167772161)], [(i64 0), (u32 20), (u32 3), (u32 0), (i64 0), (u32 0)]]), (.lst [[(.lst [[(i64 0)]]), (.lst [[(i64 0)], [(i64 1)]])], [(.lst [[(i64 0)], [(i64 1)]]), (.lst [[(i64 0)]])], [(.lst [[(i64 1)]]), (.lst [[(i64 0)]])]]), ns, ns, (i64 0), (i64 0), (i64 0), bf, bf, (i64 3), (i64 9), (i64 100), (i64 20), (i64 5), (i64 50)]), (i64 1)], res := (.agg [(u8 3), (u8 0), (u8 0), (u8 0), (u8 0), (u8 0), (u8 0), (u8 0), (u8 0), (u8 2)]) }
def t2 : List Entry := e2 :: t1
theorem b2 : entryB (callT Try.prog cfg t1 2000 300) e2 = true := by kernel_rfl
theorem o2 : TblOk Try.prog t2 := TblOk.cons (entry_ok (callT_sound mixed noRt o1 2000 300) b2) o1
def e3 : Entry := { f := 4, args := [(i64 0)], res := (.tup [(.agg [(i64 2), (i64 1), (.lst [[(i64 0), (i64 2), (i64 1)], [(i64 1), (i64 2), (i64 1)]]), (.lst [[(u32 100), (u32 1)]]), (.lst [[(i64 0), (u32 10), (u32 2), (u32 167772160), (i64 24), (u32 167772161)], [(i64 0), (u32 20), (u32 3), (u32 0), (i64 0), (u32 0)]]), (.lst [[(.lst [[(i64 0)]]), (.lst [[(i64 0)], [(i64 1)]])], [(.lst [[(i64 0)], [(i64 1)]]), (.lst [[(i64 0)]])], [(.lst [[(i64 1)]]), (.lst [[(i64 0)]])]]), ns, ns, (i64 0), (i64 0), (i64 0), bf, bf, (i64 3), (i64 9), (i64 100), (i64 20), (i64 5), (i64 50)]), (.lst [[(u8 3), (u8 0), (u8 0), (u8 0), (u8 0), (u8 0), (u8 0), (u8 0), (u8 0), (u8 2), (i64 0), (u32 184483842)]]), (.lst [[(u8 3), (u8 0), (u8 0), (u8 0), (u8 0), (u8 0), (u8 0), (u8 0), (u8 0), (u8 2), (.lst [[(u32 184483841)], [(u32 184483842)]]), (.lst [[(u32 2)], [(u32 2)]])]])]) }
def t3 : List Entry := e3 :: t2
theorem b3 : entryB (callT Try.prog cfg t2 2000 300) e3 = true := by kernel_rfl
theorem o3 : TblOk Try.prog t3 := TblOk.cons (entry_ok (callT_sound mixed noRt o2 2000 300) b3) o2
def e4 : Entry := { f := 26, args := [(.agg [(i64 2), (i64 1), (.lst [[(i64 0), (i64 2), (i64 1)], [(i64 1), (i64 2), (i64 1)]]), (.lst [[(u32 100), (u32 1)]]), (.lst [[(i64 0), (u32 10), (u32 2), (u32 167772160), (i64 24), (u32 167772161)], [(i64 0), (u32 20), (u32 3), (u32 0), (i64 0), (u32 0)]]), (.lst [[(.lst [[(i64 0)]]), (.lst [[(i64 0)], [(i64 1)]])], [(.lst [[(i64 0)], [(i64 1)]]), (.lst [[(i64 0)]])], [(.lst [[(i64 1)]]), (.lst [[(i64 0)]])]]), ns, ns, (i64 0), (i64 1), (i64 0), bf, bf, (i64 3), (i64 9), (i64 100), (i64 20), (i64 5), (i64 50)])], res := (.tup [(i64 0), (st []), (i64 0)]) }
def t4 : List Entry := e4 :: t3
theorem b4 : entryB (callT Try.prog cfg t3 2000 300) e4 = true := by kernel_rfl
theorem o4 : TblOk Try.prog t4 := TblOk.cons (entry_ok (callT_sound mixed noRt o3 2000 300) b4) o3
def e5 : Entry := { f := 11, args := [(.agg [(i64 2), (i64 1), (.lst [[(i64 0), (i64 2), (i64 1)], [(i64 1), (i64 2), (i64 1)]]), (.lst [[(u32 100), (u32 1)]]), (.lst [[(i64 0), (u32 10), (u32 2), (u32 167772160), (i64 24), (u32 167772161)], [(i64 0), (u32 20), (u32 3), (u32 0), (i64 0), (u32 0)]]), (.lst [[(.lst [[(i64 0)]]), (.lst [[(i64 0)], [(i64 1)]])], [(.lst [[(i64 0)], [(i64 1)]]), (.lst [[(i64 0)]])], [(.lst [[(i64 1)]]), (.lst [[(i64 0)]])]]), ns, ns, (i64 0), (i64 1), (i64 0), bf, bf, (i64 3), (i64 9), (i64 100), (i64 20), (i64 5), (i64 50)]), (i64 1)], res := (.agg [(u8 3), (u8 0), (u8 0), (u8 0), (u8 0), (u8 0), (u8 0), (u8 0), (u8 0), (u8 2)]) }
def t5 : List Entry := e5 :: t4
theorem b5 : entryB (callT Try.prog cfg t4 2000 300) e5 = true := by kernel_rfl
theorem o5 : TblOk Try.prog t5 := TblOk.cons (entry_ok (callT_sound mixed noRt o4 2000 300) b5) o4
def e6 : Entry := { f := 4, args := [(i64 1)], res := (.tup [(.agg [(i64 2), (i64 1), (.lst [[(i64 0), (i64 2), (i64 1)], [(i64 1), (i64 2), (i64 1)]]), (.lst [[(u32 100), (u32 1)]]), (.lst [[(i64 0), (u32 10), (u32 2), (u32 167772160), (i64 24), (u32 167772161)], [(i64 0), (u32 20), (u32 3), (u32 0), (i64 0), (u32 0)]]), (.lst [[(.lst [[(i64 0)]]), (.lst [[(i64 0)], [(i64 1)]])], [(.lst [[(i64 0)], [(i64 1)]]), (.lst [[(i64 0)]])], [(.lst [[(i64 1)]]), (.lst [[(i64 0)]])]]), ns, ns, (i64 0), (i64 1), (i64 0), bf, bf, (i64 3), (i64 9), (i64 100), (i64 20), (i64 5), (i64 50)]), (.lst [[(u8 3), (u8 0), (u8 0), (u8 0), (u8 0), (u8 0), (u8 0), (u8 0), (u8 0), (u8 2), (i64 0), (u32 184483842)]]), (.lst [[(u8 3), (u8 0), (u8 0), (u8 0), (u8 0), (u8 0), (u8 0), (u8 0), (u8 0), (u8 2), (.lst [[(u32 184483841)], [(u32 184483842)]]), (.lst [[(u32 2)], [(u32 2)]])]])]) }
def t6 : List Entry := e6 :: t5
theorem b6 : entryB (callT Try.prog cfg t5 2000 300) e6 = true := by kernel_rfl
theorem o6 : TblOk Try.prog t6 := TblOk.cons (entry_ok (callT_sound mixed noRt o5 2000 300) b6) o5
def e7 : Entry := { f := 27, args := [(.agg [(i64 2), (i64 1), (.lst [[(i64 0), (i64 2), (i64 1)], [(i64 1), (i64 2), (i64 1)]]), (.lst [[(u32 100), (u32 1)]]), (.lst [[(i64 0), (u32 10), (u32 2), (u32 167772160), (i64 24), (u32 167772161)], [(i64 0), (u32 20), (u32 3), (u32 0), (i64 0), (u32 0)]]), (.lst [[(.lst [[(i64 0)]]), (.lst [[(i64 0)], [(i64 1)]])], [(.lst [[(i64 0)], [(i64 1)]]), (.lst [[(i64 0)]])], [(.lst [[(i64 1)]]), (.lst [[(i64 0)]])]]), ns, ns, (i64 0), (i64 0), (i64 0), bf, bf, (i64 3), (i64 9), (i64 100), (i64 20), (i64 5), (i64 50)]), (i64 0)], res := (u32 184483841) }
def t7 : List Entry := e7 :: t6
theorem b7 : entryB (callT Try.prog cfg t6 2000 300) e7 = true := by kernel_rfl
theorem o7 : TblOk Try.prog t7 := TblOk.cons (entry_ok (callT_sound mixed noRt o6 2000 300) b7) o6
def e8 : Entry := { f := 12, args := [(.agg [(i64 2), (i64 1), (.lst [[(i64 0), (i64 2), (i64 1)], [(i64 1), (i64 2), (i64 1)]]), (.lst [[(u32 100), (u32 1)]]), (.lst [[(i64 0), (u32 10), (u32 2), (u32 167772160), (i64 24), (u32 167772161)], [(i64 0), (u32 20), (u32 3), (u32 0), (i64 0), (u32 0)]]), (.lst [[(.lst [[(i64 0)]]), (.lst [[(i64 0)], [(i64 1)]])], [(.lst [[(i64 0)], [(i64 1)]]), (.lst [[(i64 0)]])], [(.lst [[(i64 1)]]), (.lst [[(i64 0)]])]]), ns, ns, (i64 0), (i64 0), (i64 0), bf, bf, (i64 3), (i64 9), (i64 100), (i64 20), (i64 5), (i64 50)]), (i64 0)], res := (.tup [(.agg [(i64 2), (i64 1), (.lst [[(i64 0), (i64 2), (i64 1)], [(i64 1), (i64 2), (i64 1)]]), (.lst [[(u32 100), (u32 1)]]), (.lst [[(i64 0), (u32 10), (u32 2), (u32 167772160), (i64 24), (u32 167772161)], [(i64 0), (u32 20), (u32 3), (u32 0), (i64 0), (u32 0)]]), (.lst [[(.lst [[(i64 0)]]), (.lst [[(i64 0)], [(i64 1)]])], [(.lst [[(i64 0)], [(i64 1)]]), (.lst [[(i64 0)]])], [(.lst [[(i64 1)]]), (.lst [[(i64 0)]])]]), ns, ns, (i64 0), (i64 0), (i64 0), bf, bf, (i64 3), (i64 9), (i64 100), (i64 20), (i64 5), (i64 50), (i64 0), (u32 184483841), ns, ns, ns]), bt]) }
def t8 : List Entry := e8 :: t7
theorem b8 : entryB (callT Try.prog cfg t7 2000 300) e8 = true := by kernel_rfl
theorem o8 : TblOk Try.prog t8 := TblOk.cons (entry_ok (callT_sound mixed noRt o7 2000 300) b8) o7
def e9 : Entry := { f := 5, args := [(.lst [[(i64 0)]]), (.lst [[(i64 0)]])], res := bt }
def t9 : List Entry := e9 :: t8
theorem b9 : entryB (callT Try.prog cfg t8 2000 300) e9 = true := by kernel_rfl
theorem o9 : TblOk Try.prog t9 := TblOk.cons (entry_ok (callT_sound mixed noRt o8 2000 300) b9) o8
def e10 : Entry := { f := 5, args := [(.lst [[(i64 0)], [(i64 1)]]), (.lst [[(i64 0)], [(i64 1)]])], res := bt }
def t10 : List Entry := e10 :: t9
theorem b10 : entryB (callT Try.prog cfg t9 2000 300) e10 = true := by kernel_rfl
theorem o10 : TblOk Try.prog t10 := TblOk.cons (entry_ok (callT_sound mixed noRt o9 2000 300) b10) o9
def e11 : Entry := { f := 27, args := [(.agg [(i64 2), (i64 1), (.lst [[(i64 0), (i64 2), (i64 1)], [(i64 1), (i64 2), (i64 1)]]), (.lst [[(u32 100), (u32 1)]]), (.lst [[(i64 0), (u32 10), (u32 2), (u32 167772160), (i64 24), (u32 167772161)], [(i64 0), (u32 20), (u32 3), (u32 0), (i64 0), (u32 0)]]), (.lst [[(.lst [[(i64 0)]]), (.lst [[(i64 0)], [(i64 1)]])], [(.lst [[(i64 0)], [(i64 1)]]), (.lst [[(i64 0)]])], [(.lst [[(i64 1)]]), (.lst [[(i64 0)]])]]), ns, ns, (i64 0), (i64 1), (i64 0), bf, bf, (i64 3), (i64 9), (i64 100), (i64 20), (i64 5), (i64 50)]), (i64 0)], res := (u32 184483841) }
def t11 : List Entry := e11 :: t10
theorem b11 : entryB (callT Try.prog cfg t10 2000 300) e11 = true := by kernel_rfl
theorem o11 : TblOk Try.prog t11 := TblOk.cons (entry_ok (callT_sound mixed noRt o10 2000 300) b11) o10
def e12 : Entry := { f := 12, args := [(.agg [(i64 2), (i64 1), (.lst [[(i64 0), (i64 2), (i64 1)], [(i64 1), (i64 2), (i64 1)]]), (.lst [[(u32 100), (u32 1)]]), (.lst [[(i64 0), (u32 10), (u32 2), (u32 167772160), (i64 24), (u32 167772161)], [(i64 0), (u32 20), (u32 3), (u32 0), (i64 0), (u32 0)]]), (.lst [[(.lst [[(i64 0)]]), (.lst [[(i64 0)], [(i64 1)]])], [(.lst [[(i64 0)], [(i64 1)]]), (.lst [[(i64 0)]])], [(.lst [[(i64 1)]]), (.lst [[(i64 0)]])]]), ns, ns, (i64 0), (i64 1), (i64 0), bf, bf, (i64 3), (i64 9), (i64 100), (i64 20), (i64 5), (i64 50)]), (i64 0)], res := (.tup [(.agg [(i64 2), (i64 1), (.lst [[(i64 0), (i64 2), (i64 1)], [(i64 1), (i64 2), (i64 1)]]), (.lst [[(u32 100), (u32 1)]]), (.lst [[(i64 0), (u32 10), (u32 2), (u32 167772160), (i64 24), (u32 167772161)], [(i64 0), (u32 20), (u32 3), (u32 0), (i64 0), (u32 0)]]), (.lst [[(.lst [[(i64 0)]]), (.lst [[(i64 0)], [(i64 1)]])], [(.lst [[(i64 0)], [(i64 1)]]), (.lst [[(i64 0)]])], [(.lst [[(i64 1)]]), (.lst [[(i64 0)]])]]), ns, ns, (i64 0), (i64 1), (i64 0), bf, bf, (i64 3), (i64 9), (i64 100), (i64 20), (i64 5), (i64 50), (i64 0), (u32 184483841), ns, ns, ns]), bt]) }
def t12 : List Entry := e12 :: t11
theorem b12 : entryB (callT Try.prog cfg t11 2000 300) e12 = true := by kernel_rfl
theorem o12 : TblOk Try.prog t12 := TblOk.cons (entry_ok (callT_sound mixed noRt o11 2000 300) b12) o11
def e13 : Entry := { f := 27, args := [(.agg [(i64 2), (i64 1), (.lst [[(i64 0), (i64 2), (i64 1)], [(i64 1), (i64 2), (i64 1)]]), (.lst [[(u32 100), (u32 1)]]), (.lst [[(i64 0), (u32 10), (u32 2), (u32 167772160), (i64 24), (u32 167772161)], [(i64 0), (u32 20), (u32 3), (u32 0), (i64 0), (u32 0)]]), (.lst [[(.lst [[(i64 0)]]), (.lst [[(i64 0)], [(i64 1)]])], [(.lst [[(i64 0)], [(i64 1)]]), (.lst [[(i64 0)]])], [(.lst [[(i64 1)]]), (.lst [[(i64 0)]])]]), ns, ns, (i64 0), (i64 1), (i64 0), bf, bf, (i64 3), (i64 9), (i64 100), (i64 20), (i64 5), (i64 50)]), (i64 1)], res := (u32 184483842) }
def t13 : List Entry := e13 :: t12
theorem b13 : entryB (callT Try.prog cfg t12 2000 300) e13 = true := by kernel_rfl
theorem o13 : TblOk Try.prog t13 := TblOk.cons (entry_ok (callT_sound mixed noRt o12 2000 300) b13) o12
def e14 : Entry := { f := 12, args := [(.agg [(i64 2), (i64 1), (.lst [[(i64 0), (i64 2), (i64 1)], [(i64 1), (i64 2), (i64 1)]]), (.lst [[(u32 100), (u32 1)]]), (.lst [[(i64 0), (u32 10), (u32 2), (u32 167772160), (i64 24), (u32 167772161)], [(i64 0), (u32 20), (u32 3), (u32 0), (i64 0), (u32 0)]]), (.lst [[(.lst [[(i64 0)]]), (.lst [[(i64 0)], [(i64 1)]])], [(.lst [[(i64 0)], [(i64 1)]]), (.lst [[(i64 0)]])], [(.lst [[(i64 1)]]), (.lst [[(i64 0)]])]]), ns, ns, (i64 0), (i64 1), (i64 0), bf, bf, (i64 3), (i64 9), (i64 100), (i64 20), (i64 5), (i64 50)]), (i64 1)], res := (.tup [(.agg [(i64 2), (i64 1), (.lst [[(i64 0), (i64 2), (i64 1)], [(i64 1), (i64 2), (i64 1)]]), (.lst [[(u32 100), (u32 1)]]), (.lst [[(i64 0), (u32 10), (u32 2), (u32 167772160), (i64 24), (u32 167772161)], [(i64 0), (u32 20), (u32 3), (u32 0), (i64 0), (u32 0)]]), (.lst [[(.lst [[(i64 0)]]), (.lst [[(i64 0)], [(i64 1)]])], [(.lst [[(i64 0)], [(i64 1)]]), (.lst [[(i64 0)]])], [(.lst [[(i64 1)]]), (.lst [[(i64 0)]])]]), ns, ns, (i64 0), (i64 1), (i64 0), bf, bf, (i64 3), (i64 9), (i64 100), (i64 20), (i64 5), (i64 50), (i64 1), (u32 184483842), ns, ns, ns]), bt]) }
def t14 : List Entry := e14 :: t13
theorem b14 : entryB (callT Try.prog cfg t13 2000 300) e14 = true := by kernel_rfl
theorem o14 : TblOk Try.prog t14 := TblOk.cons (entry_ok (callT_sound mixed noRt o13 2000 300) b14) o13
def e15 : Entry := { f := 5, args := [(.lst [[(i64 1)]]), (.lst [[(i64 1)]])], res := bt }
def t15 : List Entry := e15 :: t14
theorem b15 : entryB (callT Try.prog cfg t14 2000 300) e15 = true := by kernel_rfl
theorem o15 : TblOk Try.prog t15 := TblOk.cons (entry_ok (callT_sound mixed noRt o14 2000 300) b15) o14
def e16 : Entry := { f := 5, args := [(.lst [[(i64 1)], [(i64 2)]]), (.lst [[(i64 1)], [(i64 2)]])], res := bt }
def t16 : List Entry := e16 :: t15
theorem b16 : entryB (callT Try.prog cfg t15 2000 300) e16 = true := by kernel_rfl
theorem o16 : TblOk Try.prog t16 := TblOk.cons (entry_ok (callT_sound mixed noRt o15 2000 300) b16) o15
def e17 : Entry := { f := 5, args := [(.lst [[(i64 2)]]), (.lst [[(i64 2)]])], res := bt }
def t17 : List Entry := e17 :: t16
theorem b17 : entryB (callT Try.prog cfg t16 2000 300) e17 = true := by kernel_rfl
theorem o17 : TblOk Try.prog t17 := TblOk.cons (entry_ok (callT_sound mixed noRt o16 2000 300) b17) o16
def e18 : Entry := { f := 27, args := [(.agg [(i64 2), (i64 1), (.lst [[(i64 0), (i64 2), (i64 1)], [(i64 1), (i64 2), (i64 1)]]), (.lst [[(u32 100), (u32 1)]]), (.lst [[(i64 0), (u32 10), (u32 2), (u32 167772160), (i64 24), (u32 167772161)], [(i64 0), (u32 20), (u32 3), (u32 0), (i64 0), (u32 0)]]), (.lst [[(.lst [[(i64 0)]]), (.lst [[(i64 0)], [(i64 1)]])], [(.lst [[(i64 0)], [(i64 1)]]), (.lst [[(i64 0)]])], [(.lst [[(i64 1)]]), (.lst [[(i64 0)]])]]), ns, ns, (i64 0), (i64 0), (i64 0), bf, bf, (i64 3), (i64 9), (i64 100), (i64 20), (i64 5), (i64 50)]), (i64 1)], res := (u32 184483842) }
def t18 : List Entry := e18 :: t17
theorem b18 : entryB (callT Try.prog cfg t17 2000 300) e18 = true := by kernel_rfl
theorem o18 : TblOk Try.prog t18 := TblOk.cons (entry_ok (callT_sound mixed noRt o17 2000 300) b18) o17
def e19 : Entry := { f := 12, args := [(.agg [(i64 2), (i64 1), (.lst [[(i64 0), (i64 2), (i64 1)], [(i64 1), (i64 2), (i64 1)]]), (.lst [[(u32 100), (u32 1)]]), (.lst [[(i64 0), (u32 10), (u32 2), (u32 167772160), (i64 24), (u32 167772161)], [(i64 0), (u32 20), (u32 3), (u32 0), (i64 0), (u32 0)]]), (.lst [[(.lst [[(i64 0)]]), (.lst [[(i64 0)], [(i64 1)]])], [(.lst [[(i64 0)], [(i64 1)]]), (.lst [[(i64 0)]])], [(.lst [[(i64 1)]]), (.lst [[(i64 0)]])]]), ns, ns, (i64 0), (i64 0), (i64 0), bf, bf, (i64 3), (i64 9), (i64 100), (i64 20), (i64 5), (i64 50)]), (i64 1)], res := (.tup [(.agg [(i64 2), (i64 1), (.lst [[(i64 0), (i64 2), (i64 1)], [(i64 1), (i64 2), (i64 1)]]), (.lst [[(u32 100), (u32 1)]]), (.lst [[(i64 0), (u32 10), (u32 2), (u32 167772160), (i64 24), (u32 167772161)], [(i64 0), (u32 20), (u32 3), (u32 0), (i64 0), (u32 0)]]), (.lst [[(.lst [[(i64 0)]]), (.lst [[(i64 0)], [(i64 1)]])], [(.lst [[(i64 0)], [(i64 1)]]), (.lst [[(i64 0)]])], [(.lst [[(i64 1)]]), (.lst [[(i64 0)]])]]), ns, ns, (i64 0), (i64 0), (i64 0), bf, bf, (i64 3), (i64 9), (i64 100), (i64 20), (i64 5), (i64 50), (i64 1), (u32 184483842), ns, ns, ns]), bt]) }
def t19 : List Entry := e19 :: t18
theorem b19 : entryB (callT Try.prog cfg t18 2000 300) e19 = true := by kernel_rfl
theorem o19 : TblOk Try.prog t19 := TblOk.cons (entry_ok (callT_sound mixed noRt o18 2000 300) b19) o18
def e20 : Entry := { f := 9, args := [], res := bt }
def t20 : List Entry := e20 :: t19
theorem b20 : entryB (callT Try.prog cfg t19 2000 300) e20 = true := by kernel_rfl
theorem o20 : TblOk Try.prog t20 := TblOk.cons (entry_ok (callT_sound mixed noRt o19 2000 300) b20) o19
def e21 : Entry := { f := 22, args := [(.agg [(i64 2), (i64 1), (.lst [[(i64 0), (i64 2), (i64 1)], [(i64 1), (i64 2), (i64 1)]]), (.lst [[(u32 100), (u32 1)]]), (.lst [[(i64 0), (u32 10), (u32 2), (u32 167772160), (i64 24), (u32 167772161)], [(i64 0), (u32 20), (u32 3), (u32 0), (i64 0), (u32 0)]]), (.lst [[(.lst [[(i64 0)]]), (.lst [[(i64 0)], [(i64 1)]])], [(.lst [[(i64 0)], [(i64 1)]]), (.lst [[(i64 0)]])], [(.lst [[(i64 1)]]), (.lst [[(i64 0)]])]]), ns, ns, (i64 0), (i64 1), (i64 0), bf, bf, (i64 3), (i64 9), (i64 100), (i64 20), (i64 5), (i64 50)]), (i64 1)], res := (u32 2) }
def t21 : List Entry := e21 :: t20
theorem b21 : entryB (callT Try.prog cfg t20 2000 300) e21 = true := by kernel_rfl
theorem o21 : TblOk Try.prog t21 := TblOk.cons (entry_ok (callT_sound mixed noRt o20 2000 300) b21) o20
def e22 : Entry := { f := 10, args := [(.agg [(i64 2), (i64 1), (.lst [[(i64 0), (i64 2), (i64 1)], [(i64 1), (i64 2), (i64 1)]]), (.lst [[(u32 100), (u32 1)]]), (.lst [[(i64 0), (u32 10), (u32 2), (u32 167772160), (i64 24), (u32 167772161)], [(i64 0), (u32 20), (u32 3), (u32 0), (i64 0), (u32 0)]]), (.lst [[(.lst [[(i64 0)]]), (.lst [[(i64 0)], [(i64 1)]])], [(.lst [[(i64 0)], [(i64 1)]]), (.lst [[(i64 0)]])], [(.lst [[(i64 1)]]), (.lst [[(i64 0)]])]]), ns, ns, (i64 0), (i64 1), (i64 0), bf, bf, (i64 3), (i64 9), (i64 100), (i64 20), (i64 5), (i64 50)]), (i64 1)], res := (u32 2) }
def t22 : List Entry := e22 :: t21
theorem b22 : entryB (callT Try.prog cfg t21 2000 300) e22 = true := by kernel_rfl
theorem o22 : TblOk Try.prog t22 := TblOk.cons (entry_ok (callT_sound mixed noRt o21 2000 300) b22) o21
def e23 : Entry := { f := 10, args := [(.agg [(i64 2), (i64 1), (.lst [[(i64 0), (i64 2), (i64 1)], [(i64 1), (i64 2), (i64 1)]]), (.lst [[(u32 100), (u32 1)]]), (.lst [[(i64 0), (u32 10), (u32 2), (u32 167772160), (i64 24), (u32 167772161)], [(i64 0), (u32 20), (u32 3), (u32 0), (i64 0), (u32 0)]]), (.lst [[(.lst [[(i64 0)]]), (.lst [[(i64 0)], [(i64 1)]])], [(.lst [[(i64 0)], [(i64 1)]]), (.lst [[(i64 0)]])], [(.lst [[(i64 1)]]), (.lst [[(i64 0)]])]]), ns, ns, (i64 0), (i64 0), (i64 0), bf, bf, (i64 3), (i64 9), (i64 100), (i64 20), (i64 5), (i64 50)]), (i64 1)], res := (u32 0) }
def t23 : List Entry := e23 :: t22
theorem b23 : entryB (callT Try.prog cfg t22 2000 300) e23 = true := by kernel_rfl
theorem o23 : TblOk Try.prog t23 := TblOk.cons (entry_ok (callT_sound mixed noRt o22 2000 300) b23) o22
def good : Option (ARes × List ABlk) → Bool
  | some (.ret (.sc (.bool b)), _) => b
  | _ => false
theorem last : good ((callT Try.prog cfg t23 2000 300).fn 3 [] []) = true := by kernel_rfl
theorem walk (w : World) : Calls Try.prog 3 #[] w fun e w' => e = .returned (.bool true) ∧ Go.RowKit.Below w.heap.size w w' := by
  have h := last
  unfold good at h
  split at h
  · rename_i b H1 hc
    subst h
    exact top (callT_sound mixed noRt o23 2000 300) hc w (globsOk w) #[] rfl
  · cases h
end Go.Proofs.Ytinkiagjomllfaa.horizonKnown
