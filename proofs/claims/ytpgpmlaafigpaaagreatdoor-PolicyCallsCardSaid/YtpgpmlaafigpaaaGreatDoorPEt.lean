/- The targets of a route as the reference finds them. No conditions. -/
import Derived.Test.YtpgpmlaafigpaaaGreatDoorPMza
import Derived.Test.YtpgpmlaafigpaaaGreatDoorPRs
import Derived.Test.YtpgpmlaafigpaaaGreatDoorWPr
namespace Go.L
open Go.AM Go.Sort
set_option maxRecDepth 100000
set_option linter.unusedVariables false
set_option linter.unusedSimpArgs false
theorem sM{a x:Int}(h0:0≤a)(h1:a<72057594037927936)(g0:0≤x)(g1:x<256):gz a x=a*256+x:=by
 obtain⟨p,rfl⟩:=Int.eq_ofNat_of_zero_le h0;obtain⟨q,rfl⟩:=Int.eq_ofNat_of_zero_le g0;have e1:Go.IntKind.wrap .u64 ((p:Int)*((2:Int) ^ (@Min.min Nat instMinNat (Int.toNat (8:Int)) (Go.IntKind.bits .u64))))=((2 ^ 8*p:Nat):Int):=by
  simp[Go.IntKind.wrap,Go.IntKind.bits,Go.IntKind.signed];omega
 have e2:Go.IntKind.wrap .u64 (q:Int)=(q:Int):=by
  simp[Go.IntKind.wrap,Go.IntKind.bits,Go.IntKind.signed];omega
 unfold gz;rw[e1,e2];have hor:2 ^ 8*p|||q=2 ^ 8*p+q:=(Nat.two_pow_add_eq_or_of_lt (i:=8) (by omega) p).symm
 have e3:((BitVec.ofInt (Go.IntKind.bits .u64) ((2 ^ 8*p:Nat):Int))||| (BitVec.ofInt (Go.IntKind.bits .u64) (q:Int))).toNat=2 ^ 8*p+q:=by
  rw[BitVec.toNat_or,BitVec.ofInt_natCast,BitVec.ofInt_natCast,BitVec.toNat_ofNat,BitVec.toNat_ofNat,Nat.mod_eq_of_lt,Nat.mod_eq_of_lt,hor]
  ·simp only[Go.IntKind.bits];omega
  ·simp only[Go.IntKind.bits];omega
 rw[e3];simp[Go.IntKind.wrap,Go.IntKind.bits,Go.IntKind.signed];omega
theorem st2{a b:Int}(ha:0≤a∧a<256)(hb:0≤b∧b<256):gz (gz 0 a) b=a*256+b:=by
 rw[sM (a:=0) (by omega) (by omega) ha.1 ha.2,sM (by omega) (by omega) hb.1 hb.2];omega
theorem Xd{a b c:Int}(ha:0≤a∧a<256)(hb:0≤b∧b<256)(hc:0≤c∧c<256):gz (gz (gz 0 a) b) c=(a*256+b)*256+c:=by
 rw[st2 ha hb,sM (by omega) (by omega) hc.1 hc.2]
theorem Xe{a b c d:Int}(ha:0≤a∧a<256)(hb:0≤b∧b<256)(hc:0≤c∧c<256)(hd:0≤d∧d<256):gz (gz (gz (gz 0 a) b) c) d=((a*256+b)*256+c)*256+d:=by
 rw[Xd ha hb hc,sM (by omega) (by omega) hd.1 hd.2]
theorem RG(n:Nat)(c:V8 Int):wg.S n c=some (oH c):=by
 show(Ar c).run n=_;simp only[Ar,G.run,aI,if_true,oH];by_cases h0:c.a0=0
 ·by_cases h1:c.a1=2
  all_goals (repeat (first |rw[if_pos (by first | (simp only[beq_iff_eq];omega) |omega)] |rw[if_neg (by first | (simp only[beq_iff_eq];omega) |omega)]))<;>rfl
 ·by_cases h3:c.a0=3
  ·by_cases h1:c.a1=12
   all_goals (repeat (first |rw[if_pos (by first | (simp only[beq_iff_eq];omega) |omega)] |rw[if_neg (by first | (simp only[beq_iff_eq];omega) |omega)]))<;>rfl
  ·by_cases h6:c.a0=6
   ·by_cases g0:c.a1=0
    ·(repeat (first |rw[if_pos (by first | (simp only[beq_iff_eq];omega) |omega)] |rw[if_neg (by first | (simp only[beq_iff_eq];omega) |omega)]))<;>rfl
    by_cases g1:c.a1=1
    ·(repeat (first |rw[if_pos (by first | (simp only[beq_iff_eq];omega) |omega)] |rw[if_neg (by first | (simp only[beq_iff_eq];omega) |omega)]))<;>rfl
    by_cases g2:c.a1=2
    ·(repeat (first |rw[if_pos (by first | (simp only[beq_iff_eq];omega) |omega)] |rw[if_neg (by first | (simp only[beq_iff_eq];omega) |omega)]))<;>rfl
    by_cases g3:c.a1=3
    ·(repeat (first |rw[if_pos (by first | (simp only[beq_iff_eq];omega) |omega)] |rw[if_neg (by first | (simp only[beq_iff_eq];omega) |omega)]))<;>rfl
    by_cases g6:c.a1=6
    all_goals (repeat (first |rw[if_pos (by first | (simp only[beq_iff_eq];omega) |omega)] |rw[if_neg (by first | (simp only[beq_iff_eq];omega) |omega)]))<;>rfl
   ·(repeat (first |rw[if_pos (by first | (simp only[beq_iff_eq];omega) |omega)] |rw[if_neg (by first | (simp only[beq_iff_eq];omega) |omega)]))<;>rfl
theorem UJ{n:Nat}(c:V8 Int){β:Type}(k:wg.sh.El→Option β):(wg.S n c).bind k=k (oH c):=by rw[RG n];rfl
def yN(c:V8 Int):Int:=((((c.a2*256+c.a3)*256+c.a4)*256+c.a5)*256+c.a6)*256+c.a7
theorem Tg{x:Int}(h0:0≤x)(h1:x<18446744073709551616):Go.IntKind.wrap .u64 x=x:=by simp[Go.IntKind.wrap,Go.IntKind.bits,Go.IntKind.signed];omega
def Ew(a x:Int):Int:=Go.IntKind.wrap .u64 ((Go.IntKind.wrap .u64 (a*((2:Int) ^ (@Min.min Nat instMinNat (Int.toNat (8:Int)) (Go.IntKind.bits .u64)))))+(Go.IntKind.wrap .u64 x))
theorem CC{a x:Int}(h0:0≤a)(h1:a<72057594037927936)(g0:0≤x)(g1:x<256):Ew a x=a*256+x:=by
 unfold Ew;have e:(2:Int) ^ (@Min.min Nat instMinNat (Int.toNat (8:Int)) (Go.IntKind.bits .u64))=256:=by decide
 rw[e,Tg (x:=a*256) (by omega) (by omega),Tg (x:=x) (by omega) (by omega),Tg (by omega) (by omega)]
theorem PJ(n:Nat)(c:V8 Int)(h:Au c):tA.S n c=some (yN c):=by
 obtain⟨h0,h1,h2,h3,h4,h5,h6,h7⟩:=h;show(xl c).run n=_;simp only[xl,G.run,aI,if_true];refine congrArg (some:Int→Option Int) ?_;show Ew (Ew (Ew (Ew (Ew (Ew 0 c.a2) c.a3) c.a4) c.a5) c.a6) c.a7=yN c;rw[CC (a:=0) (by omega) (by omega) h2.1 h2.2,CC (by omega) (by omega) h3.1 h3.2,CC (by omega) (by omega) h4.1 h4.2,CC (by omega) (by omega) h5.1 h5.2,CC (by omega) (by omega) h6.1 h6.2,CC (by omega) (by omega) h7.1 h7.2]
 unfold yN;omega
theorem Th{n:Nat}(c:V8 Int)(h:Au c){β:Type}(k:tA.sh.El→Option β):(tA.S n c).bind k=k (yN c):=by rw[PJ n c h];rfl
theorem Wy(x:Int):Int.fdiv x ((2:Int) ^ (@Min.min Nat instMinNat (Int.toNat (32:Int)) (Go.IntKind.bits .u64)))=x / 4294967296:=by
 rw[Int.fdiv_eq_ediv_of_nonneg _ (by decide)];rfl
theorem Vv{x:Int}:Go.IntKind.wrap .u32 x=x % 4294967296:=by simp[Go.IntKind.wrap,Go.IntKind.bits,Go.IntKind.signed]
theorem ES(l:List Int):(uniq l).length≤l.length:=by
 unfold uniq Lib.compact Lib.compactUpTo;rw[List.length_map];refine Nat.le_trans (List.length_filter_le _ _) ?_;simp
theorem Ti{a:List Int}(l:List Int)(ha:a.Pairwise (fun a b=>a<b))(hm:∀x,x∈a↔x∈l):a=uniq l:=
 Dq (fun a b:Int=>a<b) (fun a=>Int.lt_irrefl a) (fun a b h=>by omega) a (uniq l) ha (B0 l) fun x=>by rw[hm,LQ]
theorem UK{c:V8 Int}(h:Au c):fW c=if oH c=1∧yN c / 4294967296=65000 then some (Go.IntKind.wrap .u32 (yN c))else none:=by
 obtain⟨h0,h1,h2,h3,h4,h5,h6,h7⟩:=h;unfold fW;have e1:gz (gz 0 c.a2) c.a3=yN c / 4294967296:=by rw[st2 h2 h3];unfold yN;omega
 have e2:Go.IntKind.wrap .u32 (gz (gz (gz (gz 0 c.a4) c.a5) c.a6) c.a7)=Go.IntKind.wrap .u32 (yN c):=by
  rw[Xe h4 h5 h6 h7,Vv,Vv];unfold yN;omega
 rw[e1,e2]
theorem I8(M:Nat)(l:List (V8 Int))(hl:l.length<100000)(hM:l.length+3<M)(hok:∀x∈l,Au x):wj.S M l=some (uniq (l.filterMap fW)):=by
 show(wh l).run M=_;simp only[wh,G.run,aI,if_true,bD,cn,cQ,iq,ym,yl,Bs,Bt,JQ,JR,JS,Bj,Bk,UJ];refine qd (I:=fun s=>∃i:Nat,s=((i:Int),uniq ((l.take i).filterMap fW))∧i≤l.length) (m:=fun s=>l.length - s.1.toNat) (Q:=fun(t:List Int)=>t=uniq (l.filterMap fW)) ⟨0,by rw[List.take_zero];exact congrArg (Prod.mk (0:Int)) (List.eq_nil_of_length_eq_zero (Nat.le_zero.1 (ES []))).symm,Nat.zero_le _⟩ (by simp;omega) (fun s hs=>?_) (fun t ht=>?_)
 ·obtain⟨i,rfl,hi⟩:=hs;by_cases he:i=l.length
  ·left;subst he;rw[if_neg (by simp)]
   exact⟨_,rfl,by rw[List.take_length]⟩
  ·right;have hil:i<l.length:=by omega
   have e1:gi l (i:Int)=some l[i]:=by rw[bQ];exact List.getElem?_eq_getElem hil
   have okx:Au l[i]:=hok _ (List.getElem_mem hil);have hts:=UK okx;have hst:=B0 ((l.take i).filterMap fW);have hmem:= @LQ ((l.take i).filterMap fW);have hlen:=Nat.le_trans (ES ((l.take i).filterMap fW)) (List.length_filterMap_le fW (l.take i));have hstep:(l.take (i+1)).filterMap fW=(l.take i).filterMap fW++(fW l[i]).toList:=by
    rw[List.take_add_one,List.filterMap_append,List.getElem?_eq_getElem hil];cases h:fW l[i]<;>simp[h]
   have w1:Go.IntKind.wrap .i64 ((i:Int)+1)=((i+1:Nat):Int):=bG (by omega) (by omega)
   have fin0:∀out',out'=uniq ((l.take (i+1)).filterMap fW)→∃s':Int×List Int,(some (Sum.inl (((i+1:Nat):Int),out')):Option ((Int×List Int)⊕List Int))=some (Sum.inl s')∧(∃i:Nat,s'=((i:Int),uniq ((l.take i).filterMap fW))∧i≤l.length)∧l.length - s'.1.toNat<l.length - ((i:Int)).toNat:=fun out' h=>by
    subst h;exact⟨_,rfl,⟨i+1,rfl,by omega⟩,by simp only[Int.toNat_natCast];omega⟩
   rw[if_pos (by simp;omega),e1]
   simp only[Option.bind_some];refine Ob (Th _ okx _) ?_;simp only[Wy,w1];by_cases hk:oH l[i]=1
   ·rw[if_neg (by simpa using hk)]
    by_cases hf:yN l[i] / 4294967296=65000
    ·rw[if_neg (by simpa using hf)]
     rw[if_pos ⟨hk,hf⟩]at hts;generalize Go.IntKind.wrap .u32 (yN l[i])=x at*;have hnew:∀out',out'.Pairwise (fun a b=>a<b)→(∀y,y∈out'↔y=x∨y∈uniq ((l.take i).filterMap fW))→out'=uniq ((l.take (i+1)).filterMap fW):=fun out' h1 h2=>by
      refine Ti _ h1 fun y=>?_
      rw[h2,hmem,hstep,List.mem_append,hts];simp[or_comm]
     simp only[List.length_take]at hlen;generalize uniq ((l.take i).filterMap fW)=out at*;refine RF (Dp (I:=fun s=>∃j:Nat,s=(j:Int)∧j≤out.length∧∀q (h:q<out.length),q<j→out[q]<x) (m:=fun s=>out.length - s.toNat) (Q:=fun(t:Int)=>∃k:Nat,t=(k:Int)∧k≤out.length∧(∀q (h:q<out.length),q<k→out[q]<x)∧∀h:k<out.length,¬out[k]<x)
      ⟨0,rfl,Nat.zero_le _,fun q _ h=>absurd h (Nat.not_lt_zero _)⟩ (by show out.length - (0:Int).toNat<M;omega) (fun s hs=>?_) (fun t ht=>?_))
     ·obtain⟨j,rfl,hj,hlo⟩:=hs;by_cases hjl:j<out.length
      ·rw[if_pos (by simp;omega),if_pos (by omega),Int.toNat_natCast,List.getElem?_eq_getElem hjl]
       simp only[Option.bind_some];by_cases hc:out[j]<x
       ·right;rw[if_pos (by simpa using hc),bG (x:=(j:Int)+1) (n:=j+1) (by omega) (by omega)]
        refine⟨_,rfl,⟨j+1,rfl,by omega,fun q h hq=>?_⟩,by simp only[Int.toNat_natCast];omega⟩
        by_cases e:q=j
        ·subst e;exact hc
        ·exact hlo q h (by omega)
       ·left;rw[if_neg (by simpa using hc)]
        exact⟨_,rfl,j,rfl,hj,hlo,fun _=>hc⟩
      ·left;rw[if_neg (by simp;omega)]
       exact⟨_,rfl,j,rfl,hj,hlo,fun h=>absurd h hjl⟩
     ·obtain⟨k,rfl,hk,hlo,hhi⟩:=ht;simp only[ym,yl,Bs,Bt,cQ,w1,Int.toNat_natCast,decide_eq_true_eq];have fin:∀out',out'=uniq ((l.take (i+1)).filterMap fW)→∃r:(Int×List Int)⊕List Int,some (Sum.inl (((i+1:Nat):Int),out'))=some r∧∃s',r=Sum.inl s'∧(∃i:Nat,s'=((i:Int),uniq ((l.take i).filterMap fW))∧i≤l.length)∧l.length - s'.1.toNat<l.length - ((i:Int)).toNat:=fun out' h=>by
       subst h;exact⟨_,rfl,_,rfl,⟨i+1,rfl,by omega⟩,by simp only[Int.toNat_natCast];omega⟩
      by_cases hkl:k=out.length
      ·subst hkl;rw[if_pos (by simp),if_pos (by omega)]
       have hins:out++[x]=uniq ((l.take (i+1)).filterMap fW):=hnew _ (by
        have:=zz (fun a b:Int=>a<b) (fun a b c=>Int.lt_trans) (Nat.le_refl _) hst hlo (fun h=>absurd h (Nat.lt_irrefl _))
        simpa using this) (fun y=>by simp[or_comm])
       by_cases h0:out.length=0
       ·have:out=[]:=List.eq_nil_of_length_eq_zero h0;subst this;rw[if_pos (by simp),if_pos (by simp),if_pos ⟨⟨rfl,by simp⟩,by simp[roomy]⟩,if_pos ⟨⟨by simp,by simp⟩,by simp[roomy]⟩]
        exact fin _ (by simpa using hins)
       ·rw[if_neg (by omega),if_neg (by omega),if_pos (by omega),if_pos ⟨Nat.le_refl _,by simp[roomy];omega⟩]
        exact fin _ (by simpa using hins)
      ·have hlt:k<out.length:=by omega
       rw[if_neg (by simp;omega),if_pos (by omega),List.getElem?_eq_getElem hlt]
       simp only[Option.bind_some];by_cases hx:out[k]=x
       ·rw[if_neg (by simpa using hx)]
        exact fin _ (hnew _ hst fun y=>⟨.inr,fun h=>by rcases h with rfl |h;rw[← hx];exact List.getElem_mem hlt;exact h⟩)
       ·have hgt:x<out[k]:=by have:=hhi hlt;omega
        have hins:out.take k++x::out.drop k=uniq ((l.take (i+1)).filterMap fW):=hnew _ (zz (fun a b:Int=>a<b) (fun a b c=>Int.lt_trans) (by omega) hst hlo (fun _=>hgt)) (fun y=>I7 k)
        rw[if_pos (by simpa using hx),if_pos (by omega)]
        have hd:List.take (out.length - k) (List.drop k out)=List.drop k out:=List.take_of_length_le (by simp)
        by_cases h0:k=0
        ·subst h0;rw[if_pos (by omega),if_pos (by omega),if_pos ⟨⟨rfl,by omega⟩,by simp[roomy];omega⟩,if_pos ⟨⟨by omega,by omega⟩,by simp[roomy];omega⟩]
         exact fin _ (by simpa using hins)
        ·rw[if_neg (by omega),if_pos (by omega),if_pos (by omega),if_pos ⟨⟨rfl,by omega⟩,by simp[roomy];omega⟩,if_pos ⟨⟨by omega,by omega⟩,by simp[roomy];omega⟩]
         exact fin _ (by rw[Nat.zero_add,hd,List.drop_zero,List.take_length];exact hins)
    ·rw[if_pos (by simpa using hf)]
     rw[if_neg (fun q=>hf q.2)]at hts
     exact fin0 _ (by rw[hstep,hts];simp)
   ·rw[if_pos (by simpa using hk)]
    rw[if_neg (fun q=>hk q.1)]at hts
    exact fin0 _ (by rw[hstep,hts];simp)
 ·subst ht;exact if_pos (by simp[bh])
end Go.L
