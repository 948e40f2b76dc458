/- The contract of law19_lives, by a run of the abstract machine. -/
import Derived.Test.YtpgpmlaafigpaaaGreatDoorWBg
import Derived.Test.YtpgpmlaafigpaaaGreatDoorAc
namespace Go.L.Aw19
open Go.AM
set_option maxRecDepth 100000
def i64(n:Int):AVal:=.sc (.int .i64 n)
def u8(n:Int):AVal:=.sc (.int .u8 n)
def u32(n:Int):AVal:=.sc (.int .u32 n)
def u64(n:Int):AVal:=.sc (.int .u64 n)
def bt:AVal:=.sc (.bool true)
def st(l:List UInt8):AVal:=.sc (.string ⟨l.toArray⟩)
def ns:AVal:=.sc (.slice none 0 0)
theorem mixed:prog.follows .mixedOrders=true:=by kernel_rfl
theorem WW(f : FuncId)(fn : Func)(h : prog.funcs[f]? = some fn) : fn.name ≠ "runtime.NumGoroutine" := by
 have hall : prog.funcs.toList.all (fun fn => fn.name != "runtime.NumGoroutine") = true := by kernel_rfl
 have hm:fn∈prog.funcs.toList:=by simpa using Array.mem_of_getElem? h
 have:=List.all_eq_true.1 hall fn hm;simpa using this
def WX:dL:={val:=fun f=>[].contains f,kill:=fun _ _=>[],fz:=fun f=>[].contains f}
def t0:List Entry:=[]
theorem o0:zm prog t0:=zm.nil
def eA:Entry:={f:=13,args:=[],res:=bt}
theorem bA:Hf (Bc prog WX t0 2000 300) eA=true:=by kernel_rfl
theorem val:iQ prog 13 [] (.ret (.sc (.bool true))):=Lj (xN mixed WW o0 2000 300) bA
end Go.L.Aw19
namespace Go.L
open Go.AM
noncomputable def DL:aA prog:={f:=13,X:=Unit,args:=fun _=>[],sh:=.one Bool,out:=fun r=>.ret (.sc (.bool r)),S:=fun _ _=>some true,ok:=fun n x r h=>by cases h;exact Aw19.val}
end Go.L
