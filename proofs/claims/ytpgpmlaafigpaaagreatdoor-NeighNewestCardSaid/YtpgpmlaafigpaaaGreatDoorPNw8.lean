/- The law's communities read back. No conditions. -/
import Derived.Test.YtpgpmlaafigpaaaGreatDoorPNw7
namespace Go.L
open Go.AM
set_option maxRecDepth 100000
set_option linter.unusedVariables false
theorem Wb{t:Int}(h0:0≤t)(h1:t<4294967296):yx t=xX 0 2 (279172874240000+t):=by
 have e:Go.IntKind.wrap .u64 ((Go.IntKind.wrap .u64 ((Go.IntKind.wrap .u64 65000)*((2:Int) ^ (@Min.min Nat instMinNat (Int.toNat (32:Int)) (Go.IntKind.bits .u64)))))+(Go.IntKind.wrap .u64 t))=279172874240000+t:=by
  have:Go.IntKind.wrap .u64 ((Go.IntKind.wrap .u64 65000)*((2:Int) ^ (@Min.min Nat instMinNat (Int.toNat (32:Int)) (Go.IntKind.bits .u64))))=279172874240000:=by decide
  rw[this];simp only[Go.IntKind.wrap_u64];omega
 unfold yx;rw[e];unfold KO xX;refine Sl rfl rfl ?_ ?_ ?_ ?_ ?_ ?_
 all_goals simp only[Go.IntKind.wrap_u8]
 ·show((279172874240000+t).fdiv (2 ^ 40)) % 256=_;rw[Int.fdiv_eq_ediv_of_nonneg _ (by decide)];rfl
 ·show((279172874240000+t).fdiv (2 ^ 32)) % 256=_;rw[Int.fdiv_eq_ediv_of_nonneg _ (by decide)];rfl
 ·show((279172874240000+t).fdiv (2 ^ 24)) % 256=_;rw[Int.fdiv_eq_ediv_of_nonneg _ (by decide)];rfl
 ·show((279172874240000+t).fdiv (2 ^ 16)) % 256=_;rw[Int.fdiv_eq_ediv_of_nonneg _ (by decide)];rfl
 ·show((279172874240000+t).fdiv (2 ^ 8)) % 256=_;rw[Int.fdiv_eq_ediv_of_nonneg _ (by decide)];rfl
theorem WH{t:Int}(h0:0≤t)(h1:t<65536):fW (yx t)=some t:=by
 unfold fW;rw[OG,Wb h0 (by omega),UW,UX,OB,OC,OD,OE]
 have e0:gz (gz 0 ((279172874240000+t) / 1099511627776 % 256)) ((279172874240000+t) / 4294967296 % 256)=65000:=by
  rw[show(279172874240000+t) / 1099511627776 % 256=253 by omega,show(279172874240000+t) / 4294967296 % 256=232 by omega];decide
 rw[if_pos ⟨rfl,e0⟩];rw[show(279172874240000+t) / 16777216 % 256=0 by omega,show(279172874240000+t) / 65536 % 256=0 by omega]
 rw[show gz (gz 0 0) 0=0 by decide]
 rw[sM (x:=(279172874240000+t) / 256 % 256) (by omega) (by omega) (by omega) (by omega),sM (by omega) (by omega) (by omega) (by omega)]
 simp only[Go.IntKind.wrap_u32,Option.some.injEq];omega
theorem reads(n:Nat)(hn:5000≤n):Reads n:=by
 intro t s h1 h2 h3 h4;refine⟨Sq n hn t s h3 h4,?_⟩;refine⟨_,B4 n [yx t,tI s] (by show 2<1000;omega) (by show 2+10<n;omega),?_⟩
 have:[yx t,tI s].filterMap fW=[t]:=by
  rw[List.filterMap_cons,WH (by omega) (by omega),List.filterMap_cons,LR (by rw[OH];decide),List.filterMap_nil]
 rw[this];show uniq [t]=[t];unfold uniq;rw[List.mergeSort_singleton];rfl
theorem Qp(n:Nat)(hn:5000≤n)(nums seqs:List Int)(hs:∀x∈seqs,0≤x∧x<4294967296):At (rG.S n (nums,seqs)) (fun(r:Bool)=>r=true):=
 Si n hn nums seqs fun hl=>MI n hn seqs hs hl (reads n hn)
end Go.L
