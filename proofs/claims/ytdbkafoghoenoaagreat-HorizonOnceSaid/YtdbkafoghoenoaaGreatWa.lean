/- The contract of law27_HorizonKnown, by a run of the abstract machine. -/
import Derived.Test.YtdbkafoghoenoaaGreatWb
import Derived.Test.YtdbkafoghoenoaaGreatAc
set_option maxRecDepth 100000
namespace Go.L.Aw
open Go.AM
def i64(n:Int):AVal:=.sc (.int .i64 n)
def u8(n:Int):AVal:=.sc (.int .u8 n)
def u32(n:Int):AVal:=.sc (.int .u32 n)
def u64(n:Int):AVal:=.sc (.int .u64 n)
def bt:AVal:=.sc (.bool true)
def bf:AVal:=.sc (.bool false)
def st(l:List UInt8):AVal:=.sc (.string ⟨l.toArray⟩)
def ns:AVal:=.sc (.slice none 0 0)
theorem mixed:prog.follows .mixedOrders=true:=by kernel_rfl
theorem noRt(f : FuncId)(fn : Func)(h : prog.funcs[f]? = some fn) : fn.name ≠ "runtime.NumGoroutine" := by
 have hall : prog.funcs.toList.all (fun fn => fn.name != "runtime.NumGoroutine") = true := by kernel_rfl
 have hm:fn∈prog.funcs.toList:=by simpa using Array.mem_of_getElem? h
 have:=List.all_eq_true.1 hall fn hm;simpa using this
def cfgA:Cfg:={val:=fun f=>[40,17,19,39].contains f,kill:=fun _ _=>[],fz:=fun f=>[8,9].contains f}
def t0:List Entry:=[]
theorem o0:TblOk prog t0:=TblOk.nil
def e1:Entry:={f:=40,args:=[(.agg [(i64 2),(i64 1),(.lst [[(i64 0),(i64 2),(i64 1)],[(i64 1),(i64 2),(i64 1)]]),(.lst [[(u32 100),(u32 1)]]),(.lst [[(i64 0),(u32 10),(u32 2),(u32 167772160),(i64 24),(u32 167772161)],[(i64 0),(u32 20),(u32 3),(u32 0),(i64 0),(u32 0)]]),(.lst [[(.lst [[(i64 0)]]),(.lst [[(i64 0)],[(i64 1)]])],[(.lst [[(i64 0)],[(i64 1)]]),(.lst [[(i64 0)]])],[(.lst [[(i64 1)]]),(.lst [[(i64 0)]])]]),ns,ns,(i64 0),(i64 0),(i64 0),bf,bf,(i64 3),(i64 9),(i64 100),(i64 20),(i64 5),(i64 50)])],res:=(.tup [(i64 0),(st []),(i64 0)])}
def t1:List Entry:=e1::t0
theorem b1:entryB (callT prog cfgA t0 2000 300) e1=true:=by kernel_rfl
theorem o1:TblOk prog t1:=TblOk.cons (entry_ok (callT_sound mixed noRt o0 2000 300) b1) o0
def e2:Entry:={f:=17,args:=[(i64 0)],res:=(.tup [(.agg [(i64 2),(i64 1),(.lst [[(i64 0),(i64 2),(i64 1)],[(i64 1),(i64 2),(i64 1)]]),(.lst [[(u32 100),(u32 1)]]),(.lst [[(i64 0),(u32 10),(u32 2),(u32 167772160),(i64 24),(u32 167772161)],[(i64 0),(u32 20),(u32 3),(u32 0),(i64 0),(u32 0)]]),(.lst [[(.lst [[(i64 0)]]),(.lst [[(i64 0)],[(i64 1)]])],[(.lst [[(i64 0)],[(i64 1)]]),(.lst [[(i64 0)]])],[(.lst [[(i64 1)]]),(.lst [[(i64 0)]])]]),ns,ns,(i64 0),(i64 0),(i64 0),bf,bf,(i64 3),(i64 9),(i64 100),(i64 20),(i64 5),(i64 50)]),(.lst [[(u8 3),(u8 0),(u8 0),(u8 0),(u8 0),(u8 0),(u8 0),(u8 0),(u8 0),(u8 2),(i64 0),(u32 184483842)]]),(.lst [[(u8 3),(u8 0),(u8 0),(u8 0),(u8 0),(u8 0),(u8 0),(u8 0),(u8 0),(u8 2),(.lst [[(u32 184483841)],[(u32 184483842)]]),(.lst [[(u32 2)],[(u32 2)]])]])])}
def t2:List Entry:=e2::t1
theorem b2:entryB (callT prog cfgA t1 2000 300) e2=true:=by kernel_rfl
theorem o2:TblOk prog t2:=TblOk.cons (entry_ok (callT_sound mixed noRt o1 2000 300) b2) o1
def e3:Entry:={f:=40,args:=[(.agg [(i64 2),(i64 1),(.lst [[(i64 0),(i64 2),(i64 1)],[(i64 1),(i64 2),(i64 1)]]),(.lst [[(u32 100),(u32 1)]]),(.lst [[(i64 0),(u32 10),(u32 2),(u32 167772160),(i64 24),(u32 167772161)],[(i64 0),(u32 20),(u32 3),(u32 0),(i64 0),(u32 0)]]),(.lst [[(.lst [[(i64 0)]]),(.lst [[(i64 0)],[(i64 1)]])],[(.lst [[(i64 0)],[(i64 1)]]),(.lst [[(i64 0)]])],[(.lst [[(i64 1)]]),(.lst [[(i64 0)]])]]),ns,ns,(i64 0),(i64 1),(i64 0),bf,bf,(i64 3),(i64 9),(i64 100),(i64 20),(i64 5),(i64 50)])],res:=(.tup [(i64 0),(st []),(i64 0)])}
def t3:List Entry:=e3::t2
theorem b3:entryB (callT prog cfgA t2 2000 300) e3=true:=by kernel_rfl
theorem o3:TblOk prog t3:=TblOk.cons (entry_ok (callT_sound mixed noRt o2 2000 300) b3) o2
def e4:Entry:={f:=17,args:=[(i64 1)],res:=(.tup [(.agg [(i64 2),(i64 1),(.lst [[(i64 0),(i64 2),(i64 1)],[(i64 1),(i64 2),(i64 1)]]),(.lst [[(u32 100),(u32 1)]]),(.lst [[(i64 0),(u32 10),(u32 2),(u32 167772160),(i64 24),(u32 167772161)],[(i64 0),(u32 20),(u32 3),(u32 0),(i64 0),(u32 0)]]),(.lst [[(.lst [[(i64 0)]]),(.lst [[(i64 0)],[(i64 1)]])],[(.lst [[(i64 0)],[(i64 1)]]),(.lst [[(i64 0)]])],[(.lst [[(i64 1)]]),(.lst [[(i64 0)]])]]),ns,ns,(i64 0),(i64 1),(i64 0),bf,bf,(i64 3),(i64 9),(i64 100),(i64 20),(i64 5),(i64 50)]),(.lst [[(u8 3),(u8 0),(u8 0),(u8 0),(u8 0),(u8 0),(u8 0),(u8 0),(u8 0),(u8 2),(i64 0),(u32 184483842)]]),(.lst [[(u8 3),(u8 0),(u8 0),(u8 0),(u8 0),(u8 0),(u8 0),(u8 0),(u8 0),(u8 2),(.lst [[(u32 184483841)],[(u32 184483842)]]),(.lst [[(u32 2)],[(u32 2)]])]])])}
def t4:List Entry:=e4::t3
theorem b4:entryB (callT prog cfgA t3 2000 300) e4=true:=by kernel_rfl
theorem o4:TblOk prog t4:=TblOk.cons (entry_ok (callT_sound mixed noRt o3 2000 300) b4) o3
def e5:Entry:={f:=19,args:=[],res:=bt}
def t5:List Entry:=e5::t4
theorem b5:entryB (callT prog cfgA t4 2000 300) e5=true:=by kernel_rfl
theorem o5:TblOk prog t5:=TblOk.cons (entry_ok (callT_sound mixed noRt o4 2000 300) b5) o4
def e6:Entry:={f:=39,args:=[(.agg [(i64 2),(i64 1),(.lst [[(i64 0),(i64 2),(i64 1)],[(i64 1),(i64 2),(i64 1)]]),(.lst [[(u32 100),(u32 1)]]),(.lst [[(i64 0),(u32 10),(u32 2),(u32 167772160),(i64 24),(u32 167772161)],[(i64 0),(u32 20),(u32 3),(u32 0),(i64 0),(u32 0)]]),(.lst [[(.lst [[(i64 0)]]),(.lst [[(i64 0)],[(i64 1)]])],[(.lst [[(i64 0)],[(i64 1)]]),(.lst [[(i64 0)]])],[(.lst [[(i64 1)]]),(.lst [[(i64 0)]])]]),ns,ns,(i64 0),(i64 1),(i64 0),bf,bf,(i64 3),(i64 9),(i64 100),(i64 20),(i64 5),(i64 50)]),(i64 1)],res:=(u32 2)}
def t6:List Entry:=e6::t5
theorem b6:entryB (callT prog cfgA t5 2000 300) e6=true:=by kernel_rfl
theorem o6:TblOk prog t6:=TblOk.cons (entry_ok (callT_sound mixed noRt o5 2000 300) b6) o5
def eA:Entry:={f:=5,args:=[],res:=bt}
theorem bA:entryB (callT prog cfgA t6 2000 300) eA=true:=by kernel_rfl
theorem val:FnVal prog 5 [] (.ret (.sc (.bool true))):=entry_ok (callT_sound mixed noRt o6 2000 300) bA
end Go.L.Aw
namespace Go.L
open Go.AM
noncomputable def c_law27_HorizonKnown:Ctr prog:={f:=5,X:=Unit,args:=fun _=>[],sh:=.one Bool,out:=fun r=>.ret (.sc (.bool r)),S:=fun _ _=>some true,ok:=fun n x r h=>by cases h;exact Aw.val}
end Go.L
