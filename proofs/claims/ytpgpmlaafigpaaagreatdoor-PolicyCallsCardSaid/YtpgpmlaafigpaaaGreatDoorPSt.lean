/- Parts of the library's sort of numbers, continued: breakPatterns. No conditions. -/
import Derived.Test.YtpgpmlaafigpaaaGreatDoorPBl
import Derived.Laws.Bits64
import Derived.Shelf.Small.Bits
namespace Go.L
open Go.AM Go.Sort
set_option maxRecDepth 100000
set_option linter.unusedSimpArgs false
set_option linter.unusedVariables false
theorem NZ{n:Nat}(x:Nat)(h1:x<18446744073709551616){β:Type}(k:mD.sh.El→Option β):(mD.S n (x:Int)).bind k=k ((bitsLen x:Nat):Int):=by
 rw[Vl (x:Int) (by omega) (by omega)];rfl
theorem Rl{β:Type}(k1 k2:Go.IntKind)(a b:Int)(k:Unit→Option β):(Eu k1 k2 a b).run.bind k=if decide (0≤b)=true then k ()else none:=by
 unfold Eu Lv;simp only
 split<;>simp_all
theorem LP{n:Nat}(h:n<18446744073709551616):Go.IntKind.wrap .u64 (n:Int)=(n:Int):=by
 rw[Go.IntKind.wrap_u64];omega
theorem Py{x:Int}{n:Nat}(h:x=(n:Int))(hn:n<18446744073709551616):Go.IntKind.wrap .u64 x=(n:Int):=by rw[h];exact LP hn
theorem Vm{n:Nat}(y:Int)(x:Nat)(hy:y=(x:Int))(h1:0<x)(h2:x<1000000000000):kV.S n y=some ((1<<<bitsLen x:Nat):Int):=by
 show(oc y).run n=_;have hp:=two_pow_bitsLen_le h1;have hl:bitsLen x≤64:=(bitsLen_le_iff x 64).2 (by omega)
 simp only[oc,G.run,aI,if_true,Py (x:=y) (n:=x) hy (by omega),NZ x (by omega),Rl]
 rw[if_pos (by simp),Int.toNat_natCast,Nat.one_shiftLeft]
 rw[show Min.min (bitsLen x) (Go.IntKind.bits .u64)=bitsLen x from Nat.min_eq_left hl];rw[Py (n:=2 ^ bitsLen x) (by simp) (by omega)]
 rfl
theorem Vn{n:Nat}(x:Nat)(h1:0<x)(h2:x<1000000000000){β:Type}(k:kV.sh.El→Option β):(kV.S n (x:Int)).bind k=k ((1<<<bitsLen x:Nat):Int):=by
 rw[Vm (x:Int) x rfl h1 h2];rfl
theorem Pz(a b:Nat)(ha:a<18446744073709551616)(hb:b<18446744073709551616):
 Go.IntKind.wrap .u64 (((@BitVec.toNat (Go.IntKind.bits .u64) ((BitVec.ofInt (Go.IntKind.bits .u64) (a:Int)) ^^^ (BitVec.ofInt (Go.IntKind.bits .u64) (b:Int)))):Nat):Int)=((a ^^^ b:Nat):Int):=by
 have e:(@BitVec.toNat (Go.IntKind.bits .u64) ((BitVec.ofInt (Go.IntKind.bits .u64) (a:Int)) ^^^ (BitVec.ofInt (Go.IntKind.bits .u64) (b:Int))))=a ^^^ b:=by
  show(BitVec.ofInt 64 (a:Int) ^^^ BitVec.ofInt 64 (b:Int)).toNat=_;rw[BitVec.toNat_xor,BitVec.ofInt_natCast,BitVec.ofInt_natCast,BitVec.toNat_ofNat,BitVec.toNat_ofNat,Nat.mod_eq_of_lt (by omega),Nat.mod_eq_of_lt (by omega)]
 rw[e];exact LP (by have:=Nat.xor_lt_two_pow (n:=64) (x:=a) (y:=b) (by omega) (by omega);omega)
theorem Wn(a b:Nat)(ha:a<18446744073709551616)(hb:b<18446744073709551616):
 Go.IntKind.wrap .u64 (((@BitVec.toNat (Go.IntKind.bits .u64) ((BitVec.ofInt (Go.IntKind.bits .u64) (a:Int))&&& (BitVec.ofInt (Go.IntKind.bits .u64) (b:Int)))):Nat):Int)=((a&&& b:Nat):Int):=by
 have e:(@BitVec.toNat (Go.IntKind.bits .u64) ((BitVec.ofInt (Go.IntKind.bits .u64) (a:Int))&&& (BitVec.ofInt (Go.IntKind.bits .u64) (b:Int))))=a&&& b:=by
  show(BitVec.ofInt 64 (a:Int)&&& BitVec.ofInt 64 (b:Int)).toNat=_;rw[BitVec.toNat_and,BitVec.ofInt_natCast,BitVec.ofInt_natCast,BitVec.toNat_ofNat,BitVec.toNat_ofNat,Nat.mod_eq_of_lt (by omega),Nat.mod_eq_of_lt (by omega)]
 rw[e];exact LP (Nat.lt_of_le_of_lt Nat.and_le_left ha)
theorem Wo{n:Nat}(r:UInt64){β:Type}(k:lS.sh.El→Option β):(lS.S n (r.toNat:Int)).bind k=k (((xorNext r).toNat:Int),((xorNext r).toNat:Int)):=by
 have:lS.S n (r.toNat:Int)=some (((xorNext r).toNat:Int),((xorNext r).toNat:Int)):=by
  show(o8 (r.toNat:Int)).run n=_;have hr:r.toNat<18446744073709551616:=r.toNat_lt;rw[xorNext_toNat];unfold xorNextN;simp only
  generalize r.toNat=x at*;have p64:(18446744073709551616:Nat)=2 ^ 64:=by decide
  have m13:(2:Int) ^ (@Min.min Nat instMinNat (Int.toNat (13:Int)) (Go.IntKind.bits .u64))=8192:=rfl;have m7:(2:Int) ^ (@Min.min Nat instMinNat (Int.toNat (7:Int)) (Go.IntKind.bits .u64))=128:=rfl;have m17:(2:Int) ^ (@Min.min Nat instMinNat (Int.toNat (17:Int)) (Go.IntKind.bits .u64))=131072:=rfl;simp only[o8,G.run,aI,if_true,m13,m7,m17];have w1:Go.IntKind.wrap .u64 ((x:Int)*8192)=((x*8192 % 18446744073709551616:Nat):Int):=by rw[Go.IntKind.wrap_u64];omega
  rw[w1,Pz x _ hr (by omega)]
  have ha:x ^^^ (x*8192 % 18446744073709551616)<18446744073709551616:=by rw[p64];exact Nat.xor_lt_two_pow (by omega) (by omega)
  generalize x ^^^ (x*8192 % 18446744073709551616)=A at*;have w2:Int.fdiv (A:Int) 128=((A / 128:Nat):Int):=by rw[Int.fdiv_eq_ediv_of_nonneg _ (by omega)];rfl
  rw[w2,Pz A _ ha (by omega)]
  have hb:A ^^^ (A / 128)<18446744073709551616:=by rw[p64];exact Nat.xor_lt_two_pow (by omega) (by omega)
  generalize A ^^^ (A / 128)=B at*;have w3:Go.IntKind.wrap .u64 ((B:Int)*131072)=((B*131072 % 18446744073709551616:Nat):Int):=by rw[Go.IntKind.wrap_u64];omega
  rw[w3,Pz B _ hb (by omega)]
  rfl
 rw[this];rfl
def Rm(a L M i0:Nat):Nat→Nat→UInt64×Array Int→Array Int
 | 0,_,st=>st.2
 |k+1,t,st=>Rm a L M i0 k (t+1) (breakStep a L M st (i0+t))
theorem HL(d:Array Int)(a b:Nat)(h8:b - a≥8):breakPatterns d a b=Rm a (b - a) (1<<<bitsLen (b - a)) (a+(b - a) / 4*2 - 1) 3 0 (UInt64.ofNat (b - a),d):=by
 unfold breakPatterns;simp only
 rw[if_pos h8];rfl
theorem FJ(N:Nat)(d:Array Int)(a b:Nat)(hb:b≤d.size)(hab:a≤b)(hs:d.size<1000000000000)(hN:d.size+8<N):
 fP.S N (d.toList,d.size,(a:Int),(b:Int))=some (breakPatterns d a b).toList:=by
 show(iM d.toList d.size (a:Int) (b:Int)).run N=_;have t4:((b - a:Nat):Int).tdiv 4=(((b - a) / 4:Nat):Int):=rfl;simp only[iM,G.run,aI,if_true,bG (x:=(b:Int) - (a:Int)) (n:=b - a) (by omega) (by omega),t4]
 by_cases h8:b - a≥8
 ·rw[if_pos (by simp;omega),Vn (b - a) (by omega) (by omega),HL d a b h8]
  have q4:(b - a) / 4≤b - a:=Nat.div_le_self _ _;have hp:=two_pow_bitsLen_le (n:=b - a) (by omega)
  have hp2:=lt_two_pow_bitsLen (b - a);simp only[cQ,iq,fe];simp only[bG (x:=(((b - a) / 4:Nat):Int)) (n:=(b - a) / 4) rfl (by omega)]
  simp only[bG (x:=(((b - a) / 4:Nat):Int)*2) (n:=(b - a) / 4*2) (by omega) (by omega)]
  simp only[bG (x:=(a:Int)+((((b - a) / 4*2):Nat):Int)) (n:=a+(b - a) / 4*2) (by omega) (by omega)]
  simp only[bG (x:=((a+(b - a) / 4*2:Nat):Int) - 1) (n:=a+(b - a) / 4*2 - 1) (by omega) (by omega),bG (x:=((a+(b - a) / 4*2:Nat):Int)+1) (n:=a+(b - a) / 4*2+1) (by omega) (by omega)]
  rw[LP (show b - a<18446744073709551616 by omega)]
  have hr0:((b - a:Nat):Int)=((UInt64.ofNat (b - a)).toNat:Int):=by
   rw[UInt64.toNat_ofNat'];omega
  rw[Nat.one_shiftLeft];generalize hM:2 ^ bitsLen (b - a)=M at*;generalize hL:b - a=L at*;generalize hi0:a+L / 4*2 - 1=i0 at*;have hc:a+L / 4*2+1=i0+2:=by omega
  rw[hc];generalize hn:d.size=n at*;generalize hR:Rm a L M i0 3 0 (UInt64.ofNat L,d)=R;refine qd (I:=fun s=>∃(t:Nat) (r:UInt64) (q:Array Int),s=(((i0+t:Nat):Int),q.toList,(r.toNat:Int))∧t≤3∧q.size=n∧Rm a L M i0 (3 - t) t (r,q)=R) (m:=fun s=>i0+4 - s.1.toNat)
   (Q:=fun t=>t.1=R.toList)
   ⟨0,UInt64.ofNat L,d,by rw[← hr0];rfl,by omega,hn,hR⟩ (by simp only;omega) (fun s hs'=>?_) (fun t ht=>?_)
  ·obtain⟨t,r,q,rfl,h1,h2,h3⟩:=hs';simp only
   by_cases ht:t=3
   ·subst ht;rw[if_neg (by simp)]
    left;exact⟨_,rfl,by show q.toList=_;rw[← h3];rfl⟩
   ·rw[if_pos (by simp;omega),Wo r]
    have hx:(xorNext r).toNat<18446744073709551616:=(xorNext r).toNat_lt;have ho:(xorNext r).toNat&&& (M - 1)≤M - 1:=Nat.and_le_right;simp only[Py (x:=((M:Nat):Int) - 1) (n:=M - 1) (by omega) (by omega)]
    rw[Wn (xorNext r).toNat (M - 1) hx (by omega)]
    obtain⟨k,hk⟩:∃k,3 - t=k+1:=⟨2 - t,by omega⟩
    rw[hk,Rm]at h3;unfold breakStep at h3;simp only at h3;generalize (xorNext r).toNat&&& (M - 1)=o at*;simp only[bG (x:=((o:Nat):Int)) (n:=o) rfl (by omega)]
    by_cases hoL:o≥L
    ·rw[if_pos hoL]at h3;rw[if_pos (by simp;omega)]
     simp only[bG (x:=(o:Int) - (L:Int)) (n:=o - L) (by omega) (by omega),bG (x:=(a:Int)+((o - L:Nat):Int)) (n:=a+(o - L)) (by omega) (by omega)]
     simp only[if_pos (dZ (show a+(o - L)<n by omega)),Int.toNat_natCast,bN q (show a+(o - L)<q.size by omega),Option.bind_some,if_pos (dZ (show i0+t<n by omega)),bN q (show i0+t<q.size by omega)]
     rw[jD,bN _ (by simp;omega)]
     simp only[Option.bind_some,← jD,nv,bG (x:=((i0+t:Nat):Int)+1) (n:=i0+(t+1)) (by omega) (by omega)]
     right;exact⟨_,rfl,⟨t+1,xorNext r,swp q (i0+t) (a+(o - L)),rfl,by omega,by rw[eE];exact h2,by rw[show 3 - (t+1)=k by omega];exact h3⟩,by simp only[Int.toNat_natCast];omega⟩
    ·rw[if_neg hoL]at h3;rw[if_neg (by simp;omega)]
     simp only[bG (x:=(a:Int)+(o:Int)) (n:=a+o) (by omega) (by omega)]
     simp only[if_pos (dZ (show a+(o)<n by omega)),Int.toNat_natCast,bN q (show a+(o)<q.size by omega),Option.bind_some,if_pos (dZ (show i0+t<n by omega)),bN q (show i0+t<q.size by omega)]
     rw[jD,bN _ (by simp;omega)]
     simp only[Option.bind_some,← jD,nv,bG (x:=((i0+t:Nat):Int)+1) (n:=i0+(t+1)) (by omega) (by omega)]
     right;exact⟨_,rfl,⟨t+1,xorNext r,swp q (i0+t) (a+(o)),rfl,by omega,by rw[eE];exact h2,by rw[show 3 - (t+1)=k by omega];exact h3⟩,by simp only[Int.toNat_natCast];omega⟩
  ·show some t.1=_;rw[ht]
 ·rw[if_neg (by simp;omega)]
  unfold breakPatterns;simp only
  rw[if_neg h8];rfl
end Go.L
