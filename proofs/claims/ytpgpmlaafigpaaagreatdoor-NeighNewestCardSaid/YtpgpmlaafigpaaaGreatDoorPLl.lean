/- A list that is handed over has a length that an int holds. No conditions. -/
import Derived.Test.YtpgpmlaafigpaaaGreatDoorAd
namespace Go.L
open Go.AM Go
set_option linter.unusedVariables false
theorem Om{P:Program}{w:World}{r:Reach}{base:Nat}{T e:TypeId}{v:Value}{g:Gh}{rows:List (List AVal)}(hu:P.underlying T=some (.slice e))(hval:Value.okWide P w r base T v)(hR:R g w (.aj rows) v):
 (rows.length:Int)≤9223372036854775807:=by
 simp only[R]at hR;obtain⟨a,cap,rfl,hle,-⟩:=hR;unfold Value.okWide at hval;rw[hu]at hval;simp only[Cell.okWide,hu,Cell.ok]at hval;cases a with
 |none=>
  split at hval
  all_goals first |exact hval.elim |skip
  all_goals simp_all
 |some a=>
  have h2:(cap:Int)≤IntKind.i64.max:=hval.2.1;have h3:IntKind.i64.max=9223372036854775807:=rfl;omega
end Go.L
