/- MobilityOf, read back. No conditions. -/
import Derived.Test.YtpgpmlaafigpaaaGreatDoorPNw5
import Derived.Test.YtpgpmlaafigpaaaGreatDoorPTt
namespace Go.L
open Go.AM
set_option maxRecDepth 100000
set_option linter.unusedVariables false
set_option linter.unusedSimpArgs false
theorem sM{a x:Int}(h0:0≤a)(h1:a<72057594037927936)(g0:0≤x)(g1:x<256):gz a x=a*256+x:=by
 obtain⟨p,rfl⟩:=Int.eq_ofNat_of_zero_le h0;obtain⟨q,rfl⟩:=Int.eq_ofNat_of_zero_le g0;have e1:Go.IntKind.wrap .u64 ((p:Int)*((2:Int) ^ (@Min.min Nat instMinNat (Int.toNat (8:Int)) (Go.IntKind.bits .u64))))=((2 ^ 8*p:Nat):Int):=by
  simp[Go.IntKind.wrap,Go.IntKind.bits,Go.IntKind.signed];omega
 have e2:Go.IntKind.wrap .u64 (q:Int)=(q:Int):=by
  simp[Go.IntKind.wrap,Go.IntKind.bits,Go.IntKind.signed];omega
 unfold gz;rw[e1,e2];have hor:2 ^ 8*p|||q=2 ^ 8*p+q:=(Nat.two_pow_add_eq_or_of_lt (i:=8) (by omega) p).symm
 have e3:((BitVec.ofInt (Go.IntKind.bits .u64) ((2 ^ 8*p:Nat):Int))||| (BitVec.ofInt (Go.IntKind.bits .u64) (q:Int))).toNat=2 ^ 8*p+q:=by
  rw[BitVec.toNat_or,BitVec.ofInt_natCast,BitVec.ofInt_natCast,BitVec.toNat_ofNat,BitVec.toNat_ofNat,Nat.mod_eq_of_lt,Nat.mod_eq_of_lt,hor]
  ·simp only[Go.IntKind.bits];omega
  ·simp only[Go.IntKind.bits];omega
 rw[e3];simp[Go.IntKind.wrap,Go.IntKind.bits,Go.IntKind.signed];omega
theorem Sl{a0 a1 a2 a3 a4 a5 a6 a7 b0 b1 b2 b3 b4 b5 b6 b7:Int}(h0:a0=b0)(h1:a1=b1)(h2:a2=b2)(h3:a3=b3)(h4:a4=b4)(h5:a5=b5)(h6:a6=b6)(h7:a7=b7):
 V8.mk a0 a1 a2 a3 a4 a5 a6 a7=V8.mk b0 b1 b2 b3 b4 b5 b6 b7:=by subst h0 h1 h2 h3 h4 h5 h6 h7;rfl
def xX(a b x:Int):V8 Int:=V8.mk a b (x / 1099511627776 % 256) (x / 4294967296 % 256) (x / 16777216 % 256) (x / 65536 % 256) (x / 256 % 256) (x % 256)
def Qo(l:List (V8 Int))(K:Int)(c:V8 Int):Prop:=oH c=K∧∃q:Nat,l[q]? =some c∧∀(i:Nat) y,i<q→l[i]? =some y→oH y≠K
theorem Sm{τ β:Type}{l:List (V8 Int)}{K:Int}{c:V8 Int}{f:Int→Option (Int⊕τ)}{k:τ→Option β}{N:Nat}{r:Option β}(t:τ)(hF:Qo l K c)(hN:l.length<N)
 (h1:∀(i:Nat) y,i<l.length→gi l (i:Int)=some y→oH y≠K→f (i:Int)=some (.inl ((i+1:Nat):Int))) (h2:∀i:Nat,i<l.length→gi l (i:Int)=some c→oH c=K→f (i:Int)=some (.inr t)) (hk:k t=r):(bZ f N 0).bind k=r:=by
 obtain⟨hc,q,hq,hlt⟩:=hF;have hql:q<l.length:=(List.getElem?_eq_some_iff.1 hq).1;refine kP (I:=fun s=>∃i:Nat,s=(i:Int)∧i≤q) (m:=fun s=>q+1 - s.toNat) (F:=fun _=>t) ⟨0,rfl,Nat.zero_le _⟩ (by simp;omega) (fun s hs=>?_) hk
 obtain⟨i,rfl,hi⟩:=hs;by_cases he:i=q
 ·subst he;exact .inl (h2 i hql (by rw[bQ];exact hq) hc)
 ·right;have hil:i<l.length:=by omega
  refine⟨((i+1:Nat):Int),h1 i l[i] hil (by rw[bQ];exact List.getElem?_eq_getElem hil) (hlt i _ (by omega) (List.getElem?_eq_getElem hil)),⟨i+1,rfl,by omega⟩,rfl,by simp only[Int.toNat_natCast];omega⟩
def BT(a:Int):Bool:=(Go.IntKind.wrap .u8 (((@BitVec.toNat (Go.IntKind.bits .u8) ((BitVec.ofInt (Go.IntKind.bits .u8) a)&&& (BitVec.ofInt (Go.IntKind.bits .u8) (1:Int)))):Nat):Int)) != (0:Int)
theorem Jk(N:Nat)(l:List (V8 Int))(c:V8 Int)(hl:l.length<100000)(hN:l.length<N)(hF:Qo l 3 c):gj.S N l=some (BT c.a2,Go.IntKind.wrap .u32 (gz (gz (gz (gz 0 c.a4) c.a5) c.a6) c.a7),true):=by
 show(tN l).run N=_;simp only[tN,G.run,aI,if_true,bD,cn,Rn];refine Sm (.inl (BT c.a2,Go.IntKind.wrap .u32 (gz (gz (gz (gz 0 c.a4) c.a5) c.a6) c.a7))) hF hN (fun i y hi hy hk=>?_) (fun i hi hy hk=>?_) ?_
 ·rw[if_pos (by simp;omega)]
  simp only[hy,Option.bind_some];rw[if_neg (by simpa using hk),KH (by omega)]
 ·rw[if_pos (by simp;omega)]
  simp only[hy,Option.bind_some];rw[if_pos (by simpa using hk)]
  rfl
 ·rfl
theorem UW(a b x:Int):(xX a b x).a2=x / 1099511627776 % 256:=rfl
theorem UX(a b x:Int):(xX a b x).a3=x / 4294967296 % 256:=rfl
theorem OB(a b x:Int):(xX a b x).a4=x / 16777216 % 256:=rfl
theorem OC(a b x:Int):(xX a b x).a5=x / 65536 % 256:=rfl
theorem OD(a b x:Int):(xX a b x).a6=x / 256 % 256:=rfl
theorem OE(a b x:Int):(xX a b x).a7=x % 256:=rfl
theorem Wa{s:Int}(h0:0≤s)(h1:s<4294967296):tI s=xX 6 0 s:=by
 have e:Go.IntKind.wrap .u64 (0+Go.IntKind.wrap .u64 s)=s:=by simp only[Go.IntKind.wrap_u64];omega
 unfold tI;rw[e];unfold KO xX;refine Sl rfl rfl ?_ ?_ ?_ ?_ ?_ ?_
 all_goals simp only[Go.IntKind.wrap_u8]
 ·show(s.fdiv (2 ^ 40)) % 256=_;rw[Int.fdiv_eq_ediv_of_nonneg _ (by decide)];rfl
 ·show(s.fdiv (2 ^ 32)) % 256=_;rw[Int.fdiv_eq_ediv_of_nonneg _ (by decide)];rfl
 ·show(s.fdiv (2 ^ 24)) % 256=_;rw[Int.fdiv_eq_ediv_of_nonneg _ (by decide)];rfl
 ·show(s.fdiv (2 ^ 16)) % 256=_;rw[Int.fdiv_eq_ediv_of_nonneg _ (by decide)];rfl
 ·show(s.fdiv (2 ^ 8)) % 256=_;rw[Int.fdiv_eq_ediv_of_nonneg _ (by decide)];rfl
end Go.L
