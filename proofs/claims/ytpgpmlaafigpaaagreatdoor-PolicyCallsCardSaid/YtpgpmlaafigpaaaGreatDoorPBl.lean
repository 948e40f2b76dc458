/- The length of a number in bits, by the guide of the library's function. No conditions. -/
import Derived.Test.YtpgpmlaafigpaaaGreatDoorPSr
namespace Go.L
open Go.AM Go.Sort
set_option maxRecDepth 100000
set_option linter.unusedVariables false
set_option linter.unusedSimpArgs false
abbrev len8:ByteArray:=⟨⟨[0,1,2,2,3,3,3,3,4,4,4,4,4,4,4,4,5,5,5,5,5,5,5,5,5,5,5,5,5,5,5,5,6,6,6,6,6,6,6,6,6,6,6,6,6,6,6,6,6,6,6,6,6,6,6,6,6,6,6,6,6,6,6,6,7,7,7,7,7,7,7,7,7,7,7,7,7,7,7,7,7,7,7,7,7,7,7,7,7,7,7,7,7,7,7,7,7,7,7,7,7,7,7,7,7,7,7,7,7,7,7,7,7,7,7,7,7,7,7,7,7,7,7,7,7,7,7,7,8,8,8,8,8,8,8,8,8,8,8,8,8,8,8,8,8,8,8,8,8,8,8,8,8,8,8,8,8,8,8,8,8,8,8,8,8,8,8,8,8,8,8,8,8,8,8,8,8,8,8,8,8,8,8,8,8,8,8,8,8,8,8,8,8,8,8,8,8,8,8,8,8,8,8,8,8,8,8,8,8,8,8,8,8,8,8,8,8,8,8,8,8,8,8,8,8,8,8,8,8,8,8,8,8,8,8,8,8,8,8,8,8,8,8,8,8,8,8,8,8,8,8,8,8,8,8,8]⟩⟩
theorem Tb:(List.range 256).all (fun v=>decide ((len8[v]?).map (fun b=>(b.toNat:Int))=some ((bitsLen v:Nat):Int)))=true:=by kernel_rfl
theorem Vk(v:Nat)(h:v<256):(len8[v]?).map (fun b=>(b.toNat:Int))=some ((bitsLen v:Nat):Int):=
 of_decide_eq_true (List.all_eq_true.1 Tb v (List.mem_range.2 h))
theorem yf(x k:Nat)(h:2 ^ k≤x):bitsLen x=k+bitsLen (x / 2 ^ k):=by
 have i:∀j,bitsLen x≤j+k↔bitsLen (x / 2 ^ k)≤j:=fun j=>by
  rw[bitsLen_le_iff,bitsLen_le_iff,Nat.pow_add,Nat.div_lt_iff_lt_mul (Nat.two_pow_pos k)]
 have a:¬bitsLen x≤k:=by rw[bitsLen_le_iff];omega
 have h1:=(i (bitsLen (x / 2 ^ k))).2 (Nat.le_refl _);have h2:=(i (bitsLen x - k)).1 (by omega)
 omega
theorem Bo(v:Nat)(K:Int)(kk m:Nat)(hK:K=(kk:Int))(hk:kk≤56)(hv:v<256)(he:bitsLen m=kk+bitsLen v):
 ((xR len8 (Go.IntKind.wrap .u8 (v:Int))).run.bind fun x2=>some (Go.IntKind.wrap .i64 (K+Go.IntKind.wrap .i64 x2)))=some ((bitsLen m:Nat):Int):=by
 have hw:Go.IntKind.wrap .u8 (v:Int)=(v:Int):=by rw[Go.IntKind.wrap_u8];omega
 have hb:bitsLen v≤8:=(bitsLen_le_iff v 8).2 (by omega)
 have hr:(xR len8 (v:Int)).run=some ((bitsLen v:Nat):Int):=by
  show(if 0≤(v:Int)then(len8[(v:Int).toNat]?).map (fun b=>(b.toNat:Int))else none)=_
  rw[if_pos (by omega),Int.toNat_natCast,Vk v hv]
 rw[hw,hr,Option.bind_some,hK,wrap_i64 (x:=((bitsLen v:Nat):Int)) (by omega) (by omega),wrap_i64 (by omega) (by omega),he]
 simp
theorem WY(a:Nat):Int.fdiv (a:Int) ((2:Int) ^ (@Min.min Nat instMinNat (Int.toNat (32:Int)) (Go.IntKind.bits .u64)))=((a / 2 ^ 32:Nat):Int):=by
 show Int.fdiv (a:Int) ((2 ^ 32:Nat):Int)=_;rw[Int.fdiv_eq_ediv_of_nonneg _ (by omega)];rfl
theorem WZ(a:Nat):Int.fdiv (a:Int) ((2:Int) ^ (@Min.min Nat instMinNat (Int.toNat (16:Int)) (Go.IntKind.bits .u64)))=((a / 2 ^ 16:Nat):Int):=by
 show Int.fdiv (a:Int) ((2 ^ 16:Nat):Int)=_;rw[Int.fdiv_eq_ediv_of_nonneg _ (by omega)];rfl
theorem Xc(a:Nat):Int.fdiv (a:Int) ((2:Int) ^ (@Min.min Nat instMinNat (Int.toNat (8:Int)) (Go.IntKind.bits .u64)))=((a / 2 ^ 8:Nat):Int):=by
 show Int.fdiv (a:Int) ((2 ^ 8:Nat):Int)=_;rw[Int.fdiv_eq_ediv_of_nonneg _ (by omega)];rfl
theorem UB{n:Nat}(m:Nat)(h:m<2 ^ 64):zc.S n (m:Int)=some ((bitsLen m:Nat):Int):=by
 show(tL (m:Int)).run n=_;have b32:2 ^ 32≤m→bitsLen m=32+bitsLen (m / 2 ^ 32):=yf m 32;simp only[tL,G.run,aI,if_true,WY,WZ,Xc,decide_eq_true_eq];split
 ·rename_i c1;have e1:=yf m 32 (by omega)
  split
  ·rename_i c2;have e2:=yf (m / 2 ^ 32) 16 (by omega)
   split
   ·rename_i c3;have e3:=yf (m / 2 ^ 32 / 2 ^ 16) 8 (by omega)
    exact Bo _ _ 56 m (by decide) (by omega) (by omega) (by omega)
   ·rename_i c3;exact Bo _ _ 48 m (by decide) (by omega) (by omega) (by omega)
  ·rename_i c2;split
   ·rename_i c3;have e3:=yf (m / 2 ^ 32) 8 (by omega)
    exact Bo _ _ 40 m (by decide) (by omega) (by omega) (by omega)
   ·rename_i c3;exact Bo _ _ 32 m (by decide) (by omega) (by omega) (by omega)
 ·rename_i c1;split
  ·rename_i c2;have e2:=yf m 16 (by omega)
   split
   ·rename_i c3;have e3:=yf (m / 2 ^ 16) 8 (by omega)
    exact Bo _ _ 24 m (by decide) (by omega) (by omega) (by omega)
   ·rename_i c3;exact Bo _ _ 16 m (by decide) (by omega) (by omega) (by omega)
  ·rename_i c2;split
   ·rename_i c3;have e3:=yf m 8 (by omega)
    exact Bo _ _ 8 m (by decide) (by omega) (by omega) (by omega)
   ·rename_i c3;exact Bo _ _ 0 m (by decide) (by omega) (by omega) (by omega)
theorem Vl{n:Nat}(x:Int)(h0:0≤x)(h1:x<18446744073709551616):mD.S n x=some ((bitsLen x.toNat:Nat):Int):=by
 obtain⟨m,rfl⟩:∃m:Nat,x=m:=⟨x.toNat,by omega⟩
 show(vS (m:Int)).run n=_;simp only[vS,G.run,aI,if_true];rw[UB m (by omega),Int.toNat_natCast]
 rfl
end Go.L
