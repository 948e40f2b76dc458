/- MobilityOf reads the law's number back. No conditions. -/
import Derived.Test.YtpgpmlaafigpaaaGreatDoorPNw6
namespace Go.L
open Go.AM
set_option maxRecDepth 100000
set_option linter.unusedVariables false
theorem OG(t:Int):oH (yx t)=1:=rfl
theorem OH(s:Int):oH (tI s)=3:=rfl
theorem Sq(n:Nat)(hn:5000≤n)(t s:Int)(h0:0≤s)(h1:s<4294967296):At (gj.S n [yx t,tI s]) (fun(q:Bool×Int×Bool)=>q.2.1=s):=by
 have hF:Qo [yx t,tI s] 3 (tI s):=by
  refine⟨OH s,1,rfl,fun i y hi hy=>?_⟩
  have:i=0:=by omega
  subst this;cases hy;rw[OG];decide
 refine⟨_,Jk n [yx t,tI s] (tI s) (by show 2<100000;omega) (by show 2<n;omega) hF,?_⟩
 show Go.IntKind.wrap .u32 (gz (gz (gz (gz 0 (tI s).a4) (tI s).a5) (tI s).a6) (tI s).a7)=s;rw[Wa h0 h1,OB,OC,OD,OE];have e1:gz 0 (s / 16777216 % 256)=s / 16777216:=by rw[sM (by omega) (by omega) (by omega) (by omega)];omega
 have e2:gz (s / 16777216) (s / 65536 % 256)=s / 65536:=by rw[sM (by omega) (by omega) (by omega) (by omega)];omega
 have e3:gz (s / 65536) (s / 256 % 256)=s / 256:=by rw[sM (by omega) (by omega) (by omega) (by omega)];omega
 have e4:gz (s / 256) (s % 256)=s:=by rw[sM (by omega) (by omega) (by omega) (by omega)];omega
 rw[e1,e2,e3,e4];simp only[Go.IntKind.wrap_u32];omega
end Go.L
