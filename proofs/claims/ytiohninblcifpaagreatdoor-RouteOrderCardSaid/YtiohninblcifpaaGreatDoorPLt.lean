/- Parts. No conditions. -/
import Derived.Test.YtiohninblcifpaaGreatDoorPl
import Derived.Test.YtiohninblcifpaaGreatDoorPs
set_option linter.unusedVariables false
set_option maxRecDepth 100000
namespace Go.L
open Go.AM
theorem SK(n:Nat)(hn:5000≤n)(l:List (V8 Int))(h:l.length≤20):At (dV.S n l) (fun(q:List Int)=>q.length≤20):=by
 refine⟨_,KT n l (by omega) (by omega),?_⟩
 have h1:=List.length_filterMap_le rB l;have h2:∀m:List Int,(uniq m).length≤m.length:=fun m=>by
  unfold uniq Lib.compact Lib.compactUpTo;rw[List.length_map];refine Nat.le_trans (List.length_filter_le _ _) ?_;simp
 exact Nat.le_trans (h2 _) (Nat.le_trans h1 h)
theorem Ov{n:Nat}(hn:5000≤n){rs:List aK}(hr:MR rs):MS n rs:=fun r h=>SK n hn _ (hr.comms r h)
theorem E7(n:Nat)(hn:5000≤n)(f:aG)(hv:Vf f)(self:Int)(up:List Bool)(rs:List aK)(hr:MR rs):At (nU.S n (f,self,up,rs)) (fun(r:List aF)=>r=rH n f self up rs):=Om n hn f hv self up rs hr (Ov hn hr)
theorem Ow(n:Nat)(hn:5000≤n)(f:aG)(hv:Vf f)(self:Int)(up:List Bool)(rs:List aK)(hr:MR rs):(rH n f self up rs).length≤3612:=MT n f hv self up rs hr (Ov hn hr)
end Go.L
