/- The closed law's calls, worked out one by one, and the whole. No conditions. -/
import Derived.Test.YtiabcibbojpclaaAmZ
import Derived.Test.YtiabcibbojpclaaRows
namespace Go.Proofs.Ytiabcibbojpclaa.gatewayKnown
open Go.AM

instance globs : Globs := ⟨⟨fun _ => none⟩⟩
theorem globsOk (w : World) : GlobsOk (Gh.bare w) w := fun _ _ h => by cases h

def i8 (n : Int) : AVal := .sc (.int .i8 n)
def i16 (n : Int) : AVal := .sc (.int .i16 n)
def i32 (n : Int) : AVal := .sc (.int .i32 n)
def i64 (n : Int) : AVal := .sc (.int .i64 n)
def u8 (n : Int) : AVal := .sc (.int .u8 n)
def u16 (n : Int) : AVal := .sc (.int .u16 n)
def u32 (n : Int) : AVal := .sc (.int .u32 n)
def u64 (n : Int) : AVal := .sc (.int .u64 n)
def bt : AVal := .sc (.bool true)
def bf : AVal := .sc (.bool false)
def st (l : List UInt8) : AVal := .sc (.string ⟨l.toArray⟩)
def ni : AVal := .sc .nilIface
def nf : AVal := .sc .nilFunc
def ns : AVal := .sc (.slice none 0 0)
def np : AVal := .sc (.pointer none)
def nm : AVal := .sc (.map none)
def nt : AVal := .sc (.tuple #[])

theorem mixed : Try.prog.follows .mixedOrders = true := by kernel_rfl
theorem noRt (f : FuncId) (fn : Func) (h : Try.prog.funcs[f]? = some fn) : fn.name ≠ "runtime.NumGoroutine" := by
  have hall : Try.prog.funcs.toList.all (fun fn => fn.name != "runtime.NumGoroutine") = true := by kernel_rfl
  have hm : fn ∈ Try.prog.funcs.toList := by simpa using Array.mem_of_getElem? h
  have := List.all_eq_true.1 hall fn hm
  simpa using this

def cfg : Cfg := { val := fun f => [36].contains f, kill := fun _ _ => [] }
def t0 : List Entry := []
theorem o0 : TblOk Try.prog t0 := TblOk.nil
def e1 : Entry := { f := 36, args := [(.agg [(i64 2), (i64 1), (.lst [[(i64 0), (i64 2), (i64 1)], [(i64 1), (i64 2), (i64 1)]]), (.lst [[(u32 100), (u32 1)]]), (.lst [[(i64 0), (u32 10), (u32 2), (u32 167772160), (i64 24), (u32 167772161)], [(i64 0), (u32 20), (u32 3), (u32 0), (i64 0), (u32 0)]]), (.lst [[(.lst [[(i64 0)]]), (.lst [[(i64 0)], [(i64 1)]])], [(.lst [[(i64 0)], [(i64 1)]]), (.lst [[(i64 0)]])], [(.lst [[(i64 1)]]), (.lst [[(i64 0)]])]]), ns, ns, (i64 0), (i64 0), (i64 0), bf, bf, (i64 3), (i64 9), (i64 100), (i64 20), (i64 5), (i64 50)])], res := (.tup [(i64 0), (st []), (i64 0)]) }
def t1 : List Entry := e1 :: t0
theorem b1 : entryB (callT Try.prog cfg t0 2000 300) e1 = true := by kernel_rfl
theorem o1 : TblOk Try.prog t1 := TblOk.cons (entry_ok (callT_sound mixed noRt o0 2000 300) b1) o0
def good : Option (ARes × List ABlk) → Bool
  | some (.ret (.sc (.bool b)), _) => b
  | _ => false
theorem last : good ((callT Try.prog cfg t1 2000 300).fn 3 [] []) = true := by kernel_rfl
theorem walk (w : World) : Calls Try.prog 3 #[] w fun e w' => e = .returned (.bool true) ∧ Go.RowKit.Below w.heap.size w w' := by
  have h := last
  unfold good at h
  split at h
  · rename_i b H1 hc
    subst h
    exact top (callT_sound mixed noRt o1 2000 300) hc w (globsOk w) #[] rfl
  · cases h
end Go.Proofs.Ytiabcibbojpclaa.gatewayKnown
