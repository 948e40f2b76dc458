/- The library's sort of numbers. No conditions. -/
import Derived.Test.YtpgpmlaafigpaaaGreatDoorPSu
namespace Go.L
open Go.AM Go.Sort
set_option maxRecDepth 100000
set_option linter.unusedSimpArgs false
set_option linter.unusedVariables false
theorem Vp{N n:Nat}(l:List Int):gE.S N (l,n)=(mc l n).run N:=by kernel_rfl
theorem Vq{N:Nat}(l:List Int)(hs:l.length<1000000000000)(hN:l.length+8<N):gE.S N (l,l.length)=some (sort ltInt l.toArray).toList:=by
 rw[Vp];have hl:bitsLen l.length≤64:=(bitsLen_le_iff _ _).2 (by omega)
 simp only[mc,G.run,aI,if_true,LP (show l.length<18446744073709551616 by omega),NZ l.length (by omega)]
 have h:=vl N N l.length 0 l.length (bitsLen l.length) l.toArray (by simp) (by omega) hs hN (by omega) (Nat.le_refl _) (by omega) (Or.inl rfl)
 rw[show oF.S N (l,l.length,(0:Int),(l.length:Int),((bitsLen l.length:Nat):Int))=some (pdq ltInt l.toArray 0 l.length (bitsLen l.length) true true).toList from h];rfl
theorem Vr{N n:Nat}(l:List Int)(hn:l.length=n)(hs:n<1000000000000)(hN:n+8<N){β:Type}(k:gE.sh.El→Option β):
 (gE.S N (l,n)).bind k=k (l.mergeSort (fun x y=>decide (x≤y))):=by
 subst hn;rw[Vq l hs hN,sortInt];rfl
end Go.L
