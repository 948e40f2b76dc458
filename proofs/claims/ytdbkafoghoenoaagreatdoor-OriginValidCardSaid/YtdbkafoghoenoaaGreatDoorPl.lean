/- Parts put together. No conditions. -/
import Derived.Test.YtdbkafoghoenoaaGreatDoorPv
import Derived.Test.YtdbkafoghoenoaaGreatDoorWk
import Derived.Test.YtdbkafoghoenoaaGreatDoorWl
set_option linter.unusedSimpArgs false
set_option linter.unusedVariables false
set_option maxRecDepth 100000
section
namespace Go.L
open Go.AM
section
variable {β:Type} (n:Nat)
theorem ref_valid(p:Prefix)(k:c_ref01_valid.sh.El→Option β):(c_ref01_valid.S n p).bind k=k (okPre p):=by
 have:c_ref01_valid.S n p=some (okPre p):=by
  show(g_ref01_valid p).run n=_;simp only[g_ref01_valid,G.run,tsOk,okPre,ge_iff_le];by_cases h:0≤p.Len<;>simp[h]<;>rfl
 rw[this];rfl
theorem ref_mask(x:Int)(h0:0≤x)(h1:x≤32)(k:c_ref01_mask.sh.El→Option β):(c_ref01_mask.S n x).bind k=k (maskP x):=by
 have:c_ref01_mask.S n x=some (maskR x):=by
  show(g_ref01_mask x).run n=_;simp only[g_ref01_mask,G.run,tsOk,shlO_bind];rw[if_pos (by rw[wrap32 h0 h1];simp;omega)]
  rfl
 rw[this,mask_eq h0 h1];rfl
end
end Go.L
end
section
namespace Go.L
open Go.AM
end Go.L
namespace Go.L
open Go.AM
end Go.L
namespace Go.L
open Go.AM
section
variable {β:Type} (n:Nat)
theorem ref_Clean(p:Prefix)(k:c_ref01_Clean.sh.El→Option β):(c_ref01_Clean.S n p).bind k=if okPre p=true then k (⟨band p.IP (maskP p.Len),p.Len⟩,0)else k (⟨0,0⟩,2):=by
 have:c_ref01_Clean.S n p=some (if okPre p=true then(⟨band p.IP (maskP p.Len),p.Len⟩,0)else(⟨0,0⟩,2)):=by
  show(g_ref01_Clean p).run n=_;simp only[g_ref01_Clean,G.run,tsOk,ref_valid];by_cases h:okPre p=true
  ·simp only[h,Bool.not_true,Bool.false_eq_true,if_false,if_true];simp only[okPre,Bool.and_eq_true,decide_eq_true_eq]at h;rw[ref_mask n p.Len h.1 h.2];rfl
  ·simp[h];rfl
 rw[this];split<;>rfl
end
end Go.L
namespace Go.L
open Go.AM
end Go.L
namespace Go.L
open Go.AM
end Go.L
namespace Go.L
open Go.AM
end Go.L
namespace Go.L
open Go.AM
end Go.L
namespace Go.L
open Go.AM
end Go.L
namespace Go.L
open Go.AM
end Go.L
end
