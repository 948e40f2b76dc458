/- The reference's prefixes. No conditions. -/
import Derived.Test.YtiohninblcifpaaGreatDoorPv
import Derived.Test.YtiohninblcifpaaGreatDoorWx
namespace Go.L
open Go.AM
set_option linter.unusedSimpArgs false
set_option linter.unusedVariables false
theorem wrap_u32(x:Int):Go.IntKind.wrap .u32 x=x % 4294967296:=by
 simp[Go.IntKind.wrap,Go.IntKind.bits,Go.IntKind.signed]
theorem PM(x:BitVec 32):Go.IntKind.wrap .u32 (x.toNat:Int)=(x.toNat:Int):=by
 rw[wrap_u32];have:=x.isLt;omega
theorem JY(x:BitVec 32):BitVec.ofInt 32 (x.toNat:Int)=x:=by
 apply BitVec.eq_of_toNat_eq;rw[BitVec.toNat_ofInt];have:=x.isLt;omega
theorem Cx(a b m:BitVec 32):(a ^^^ b)&&& m=0↔a&&& m=b&&& m:=by
 constructor
 ·intro h;apply BitVec.eq_of_getElem_eq;intro i hi;have:=congrArg (fun v:BitVec 32=>v[i]) h
  simp only[BitVec.getElem_and,BitVec.getElem_xor,BitVec.getElem_zero]at this ⊢
  revert this;cases a[i]<;>cases b[i]<;>cases m[i]<;>simp
 ·intro h;apply BitVec.eq_of_getElem_eq;intro i hi;have:=congrArg (fun v:BitVec 32=>v[i]) h
  simp only[BitVec.getElem_and,BitVec.getElem_xor,BitVec.getElem_zero]at this ⊢
  revert this;cases a[i]<;>cases b[i]<;>cases m[i]<;>simp
theorem OI(a b m:Int):(Cr (Ot a b) m==0)=(Cr a m==Cr b m):=by
 unfold Cr Ot;simp only[PM,JY];rw[Bool.eq_iff_iff];simp only[beq_iff_eq];constructor
 ·intro h;have h2:((BitVec.ofInt 32 a ^^^ BitVec.ofInt 32 b)&&& BitVec.ofInt 32 m)=0:=by
   apply BitVec.eq_of_toNat_eq;simpa using h
  rw[(Cx _ _ _).1 h2]
 ·intro h;have h2:(BitVec.ofInt 32 a&&& BitVec.ofInt 32 m)=(BitVec.ofInt 32 b&&& BitVec.ofInt 32 m):=by
   apply BitVec.eq_of_toNat_eq;omega
  rw[(Cx _ _ _).2 h2];rfl
section
variable {β:Type} (n:Nat)
theorem Cy(p:af)(k:nR.sh.El→Option β):(nR.S n p).bind k=k (jH p):=by
 have:nR.S n p=some (jH p):=by
  show(xb p).run n=_;simp only[xb,G.run,aX,jH,ge_iff_le];by_cases h:0≤p.Len<;>simp[h]<;>rfl
 rw[this];rfl
theorem OJ(x:Int)(h0:0≤x)(h1:x≤32)(k:rN.sh.El→Option β):(rN.S n x).bind k=k (wz x):=by
 have:rN.S n x=some (LF x):=by
  show(yI x).run n=_;simp only[yI,G.run,aX,Cq];rw[if_pos (by rw[wrap32 h0 h1];simp;omega)]
  rfl
 rw[this,PI h0 h1];rfl
theorem Jc(p:af)(ip:Int)(k:nJ.sh.El→Option β):(nJ.S n (p,ip)).bind k=k (iK p ip):=by
 have:nJ.S n (p,ip)=some (iK p ip):=by
  show(tZ p ip).run n=_;simp only[tZ,G.run,aX,Cy,iK,OI];by_cases h:jH p=true
  ·simp only[h,if_true,Bool.true_and];simp only[jH,Bool.and_eq_true,decide_eq_true_eq]at h;simp only[OJ n p.Len h.1 h.2];rfl
  ·simp[h];rfl
 rw[this];rfl
end
end Go.L
