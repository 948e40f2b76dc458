/- The closed law's calls, worked out one by one, and the whole. No conditions. -/
import Derived.Test.YtinkiagjomllfaaDoorAmDr
import Derived.Test.YtinkiagjomllfaaDoorRows
namespace Go.Proofs.YtinkiagjomllfaaDoor.commNames
open Go.AM

def kv : List Value := [(1, 0, 2), (2, 3, 12), (3, 6, 0), (4, 6, 1), (5, 6, 2), (6, 6, 3), (7, 6, 6)].flatMap fun (p : Int × Int × Int) => [.int .i64 p.1, .int .u8 p.2.1, .int .u8 p.2.2]
def kk : List Kd := (List.replicate 7 [.int .i64, .int .u8, .int .u8]).flatten
instance globs : Globs := ⟨⟨fun i => match i with
  | 0 => some [.sc (.int .i64 1), .sc (.int .u8 0), .sc (.int .u8 2), .sc (.int .i64 2), .sc (.int .u8 3), .sc (.int .u8 12), .sc (.int .i64 3), .sc (.int .u8 6), .sc (.int .u8 0), .sc (.int .i64 4), .sc (.int .u8 6), .sc (.int .u8 1), .sc (.int .i64 5), .sc (.int .u8 6), .sc (.int .u8 2), .sc (.int .i64 6), .sc (.int .u8 6), .sc (.int .u8 3), .sc (.int .i64 7), .sc (.int .u8 6), .sc (.int .u8 6)]
  | _ => none⟩⟩
theorem globsOk {W : World} (h : laidMet Tryd.prog Rows.commNamesRow.laid W) : GlobsOk (Gh.bare W) W := by
  refine globs_one (P := Tryd.prog) (name := "leafmesh/comm.kinds") (g := 0) (vs := kv) (by kernel_rfl) (laid_cells (g := 0) (t := 56) (ks := kk) (by kernel_rfl) (by kernel_rfl) (by kernel_rfl) (by kernel_rfl) h) (by kernel_rfl) fun i cs hi => ?_
  match i, hi with
  | 0, hi => exact ⟨rfl, (Option.some.inj hi).symm⟩
def i8 (n : Int) : AVal := .sc (.int .i8 n)
def i16 (n : Int) : AVal := .sc (.int .i16 n)
def i32 (n : Int) : AVal := .sc (.int .i32 n)
def i64 (n : Int) : AVal := .sc (.int .i64 n)
def u8 (n : Int) : AVal := .sc (.int .u8 n)
def u16 (n : Int) : AVal := .sc (.int .u16 n)
def u32 (n : Int) : AVal := .sc (.int .u32 n)
def u64 (n : Int) : AVal := .sc (.int .u64 n)
def bt : AVal := .sc (.bool true)
def bf : AVal := .sc (.bool false)
def st (l : List UInt8) : AVal := .sc (.string ⟨l.toArray⟩)
def ni : AVal := .sc .nilIface
def nf : AVal := .sc .nilFunc
def ns : AVal := .sc (.slice none 0 0)
def np : AVal := .sc (.pointer none)
def nm : AVal := .sc (.map none)
def nt : AVal := .sc (.tuple #[])

theorem mixed : Tryd.prog.follows .mixedOrders = true := by kernel_rfl
theorem noRt (f : FuncId) (fn : Func) (h : Tryd.prog.funcs[f]? = some fn) : fn.name ≠ "runtime.NumGoroutine" := by
  have hall : Tryd.prog.funcs.toList.all (fun fn => fn.name != "runtime.NumGoroutine") = true := by kernel_rfl
  have hm : fn ∈ Tryd.prog.funcs.toList := by simpa using Array.mem_of_getElem? h
  have := List.all_eq_true.1 hall fn hm
  simpa using this

def cfg : Cfg := { val := fun f => [18].contains f, kill := fun _ _ => [] }
def t0 : List Entry := []
theorem o0 : TblOk Tryd.prog t0 := TblOk.nil
def e1 : Entry := { f := 18, args := [(i64 1), (.lst [[(i64 2), (u64 65000)], [(i64 4), (u64 7)]])], res := (.agg [(u8 0), (u8 2), (u8 253), (u8 232), (u8 0), (u8 0), (u8 0), (u8 7)]) }
def t1 : List Entry := e1 :: t0
theorem b1 : entryB (callT Tryd.prog cfg t0 2000 300) e1 = true := by kernel_rfl
theorem o1 : TblOk Tryd.prog t1 := TblOk.cons (entry_ok (callT_sound mixed noRt o0 2000 300) b1) o0
def e2 : Entry := { f := 18, args := [(i64 1), (.lst [[(i64 2), (u64 65000)], [(i64 4), (u64 9)]])], res := (.agg [(u8 0), (u8 2), (u8 253), (u8 232), (u8 0), (u8 0), (u8 0), (u8 9)]) }
def t2 : List Entry := e2 :: t1
theorem b2 : entryB (callT Tryd.prog cfg t1 2000 300) e2 = true := by kernel_rfl
theorem o2 : TblOk Tryd.prog t2 := TblOk.cons (entry_ok (callT_sound mixed noRt o1 2000 300) b2) o1
def e3 : Entry := { f := 18, args := [(i64 1), (.lst [[(i64 2), (u64 1)], [(i64 4), (u64 5)]])], res := (.agg [(u8 0), (u8 2), (u8 0), (u8 1), (u8 0), (u8 0), (u8 0), (u8 5)]) }
def t3 : List Entry := e3 :: t2
theorem b3 : entryB (callT Tryd.prog cfg t2 2000 300) e3 = true := by kernel_rfl
theorem o3 : TblOk Tryd.prog t3 := TblOk.cons (entry_ok (callT_sound mixed noRt o2 2000 300) b3) o2
def e4 : Entry := { f := 18, args := [(i64 4), (.lst [[(i64 1), (u64 1)], [(i64 2), (u64 0)], [(i64 3), (u64 258)]])], res := (.agg [(u8 6), (u8 1), (u8 1), (u8 0), (u8 0), (u8 0), (u8 1), (u8 2)]) }
def t4 : List Entry := e4 :: t3
theorem b4 : entryB (callT Tryd.prog cfg t3 2000 300) e4 = true := by kernel_rfl
theorem o4 : TblOk Tryd.prog t4 := TblOk.cons (entry_ok (callT_sound mixed noRt o3 2000 300) b4) o3
def e5 : Entry := { f := 18, args := [(i64 7), (.lst [[(i64 1), (u64 2)], [(i64 3), (u64 0)], [(i64 2), (u64 32767)]])], res := (.agg [(u8 6), (u8 6), (u8 2), (u8 0), (u8 0), (u8 0), (u8 127), (u8 255)]) }
def t5 : List Entry := e5 :: t4
theorem b5 : entryB (callT Tryd.prog cfg t4 2000 300) e5 = true := by kernel_rfl
theorem o5 : TblOk Tryd.prog t5 := TblOk.cons (entry_ok (callT_sound mixed noRt o4 2000 300) b5) o4
def e6 : Entry := { f := 18, args := [(i64 2), (.lst [[(i64 4), (u64 0)], [(i64 2), (u64 8)]])], res := (.agg [(u8 3), (u8 12), (u8 0), (u8 0), (u8 0), (u8 0), (u8 0), (u8 8)]) }
def t6 : List Entry := e6 :: t5
theorem b6 : entryB (callT Tryd.prog cfg t5 2000 300) e6 = true := by kernel_rfl
theorem o6 : TblOk Tryd.prog t6 := TblOk.cons (entry_ok (callT_sound mixed noRt o5 2000 300) b6) o5
def e7 : Entry := { f := 18, args := [(i64 3), (.lst [[(i64 1), (u64 1)], [(i64 1), (u64 0)], [(i64 4), (u64 3)]])], res := (.agg [(u8 6), (u8 0), (u8 1), (u8 0), (u8 0), (u8 0), (u8 0), (u8 3)]) }
def t7 : List Entry := e7 :: t6
theorem b7 : entryB (callT Tryd.prog cfg t6 2000 300) e7 = true := by kernel_rfl
theorem o7 : TblOk Tryd.prog t7 := TblOk.cons (entry_ok (callT_sound mixed noRt o6 2000 300) b7) o6
def e8 : Entry := { f := 18, args := [(i64 3), (.lst [[(i64 1), (u64 0)], [(i64 1), (u64 0)], [(i64 4), (u64 9)]])], res := (.agg [(u8 6), (u8 0), (u8 0), (u8 0), (u8 0), (u8 0), (u8 0), (u8 9)]) }
def t8 : List Entry := e8 :: t7
theorem b8 : entryB (callT Tryd.prog cfg t7 2000 300) e8 = true := by kernel_rfl
theorem o8 : TblOk Tryd.prog t8 := TblOk.cons (entry_ok (callT_sound mixed noRt o7 2000 300) b8) o7
def good : Option (ARes × List ABlk) → Bool
  | some (.ret (.sc (.bool b)), _) => b
  | _ => false
theorem last : good ((callT Tryd.prog cfg t8 2000 300).fn 3 [] []) = true := by kernel_rfl
theorem walk (w : World) (hL : laidMet Tryd.prog Rows.commNamesRow.laid w) : Calls Tryd.prog 3 #[] w fun e w' => e = .returned (.bool true) ∧ Go.RowKit.Below w.heap.size w w' := by
  have h := last
  unfold good at h
  split at h
  · rename_i b H1 hc
    subst h
    exact top (callT_sound mixed noRt o8 2000 300) hc w (globsOk hL) #[] rfl
  · cases h
end Go.Proofs.YtinkiagjomllfaaDoor.commNames
