/- The library's sort of numbers: the recursion. No conditions. -/
import Derived.Test.YtpgpmlaafigpaaaGreatDoorPSt
namespace Go.L
open Go.AM Go.Sort
set_option maxRecDepth 100000
set_option linter.unusedSimpArgs false
set_option linter.unusedVariables false
theorem Wp{N n a b:Nat}(e:Array Int)(he:e.size=n){β:Type}(hs:n<1000000000000)(hN:n+8<N)(hb:b≤n)(hab:a≤b)(k:fO.sh.El→Option β):(fO.S N (e.toList,n,(a:Int),(b:Int))).bind k=k (insertionSort ltInt e a b).toList:=by
 subst he;rw[Kk N e a b hb hab (by omega) (by omega)];rfl
theorem Vo{N n a b:Nat}(e:Array Int)(he:e.size=n){β:Type}(hs:n<1000000000000)(hN:n+8<N)(hb:b≤n)(hab:a≤b)(k:gU.sh.El→Option β):(gU.S N (e.toList,n,(a:Int),(b:Int))).bind k=k (heapSort ltInt e a b).toList:=by
 subst he;rw[Ta N e a b hb hab (by omega) (by omega)];rfl
theorem Wq{N n a b:Nat}(e:Array Int)(he:e.size=n){β:Type}(hs:n<1000000000000)(hN:n+8<N)(hb:b≤n)(hab:a≤b)(k:fP.sh.El→Option β):(fP.S N (e.toList,n,(a:Int),(b:Int))).bind k=k (breakPatterns e a b).toList:=by
 subst he;rw[FJ N e a b hb hab (by omega) (by omega)];rfl
theorem Ud{N n a b:Nat}(e:Array Int)(he:e.size=n){β:Type}(hs:n<1000000000000)(hN:n+8<N)(hb:b≤n)(hab:a<b)(k:dW.sh.El→Option β):(dW.S N (e.toList,n,(a:Int),(b:Int))).bind k=k (reverseRange e a b).toList:=by
 subst he;rw[Na N e a b hb hab (by omega) (by omega)];rfl
theorem Ue{N n a b:Nat}(e:Array Int)(he:e.size=n){β:Type}(hs:n<1000000000000)(hN:n+8<N)(hb:b≤n)(hab:a<b)(k:bW.sh.El→Option β):(bW.S N (e.toList,n,(a:Int),(b:Int))).bind k=k ((partialInsertionSort ltInt e a b).2,(partialInsertionSort ltInt e a b).1.toList):=by
 subst he;rw[I2 N e a b hb hab (by omega) (by omega)];rfl
theorem Uf{N n a b:Nat}(e:Array Int)(he:e.size=n){β:Type}(hs:n<1000000000000)(hN:n+8<N)(hb:b≤n)(hab:a<b)(k:dU.sh.El→Option β):(dU.S N (e.toList,n,(a:Int),(b:Int))).bind k=k (((choosePivot ltInt e a b).1:Int),hintCode (choosePivot ltInt e a b).2,e.toList):=by
 subst he;have:dU.S N (e.toList,e.size,(a:Int),(b:Int))=some (((choosePivot ltInt e a b).1:Int),hintCode (choosePivot ltInt e a b).2,e.toList):=by
  show sr N (e.toList,e.size,(a:Int),(b:Int))=_;unfold sr;rw[if_pos (by simp)]
  have:=HF N e a b hb hab (by omega)
  simp only[this];rfl
 rw[this];rfl
theorem Wr{N n a b:Nat}(e:Array Int)(he:e.size=n){β:Type}(hs:n<1000000000000)(hN:n+8<N)(hb:b≤n){p:Nat}(hap:a≤p)(hpb:p<b)(k:av.sh.El→Option β):(av.S N (e.toList,n,(a:Int),(b:Int),(p:Int))).bind k=k (((partition ltInt e a b p).1:Int),(partition ltInt e a b p).2.1,(partition ltInt e a b p).2.2.toList):=by
 subst he;rw[Kl N e a b p hb hap hpb (by omega) (by omega)];rfl
theorem Ws{N n a b:Nat}(e:Array Int)(he:e.size=n){β:Type}(hs:n<1000000000000)(hN:n+8<N)(hb:b≤n){p:Nat}(hap:a≤p)(hpb:p<b)(k:aL.sh.El→Option β):(aL.S N (e.toList,n,(a:Int),(b:Int),(p:Int))).bind k=k (((partitionEqual ltInt e a b p).1:Int),(partitionEqual ltInt e a b p).2.toList):=by
 subst he;rw[Pw N e a b p hb hap hpb (by omega) (by omega)];rfl
abbrev PA:=Int×Int×Int×Bool×Bool×List Int
def Next(n a b lim:Nat)(PDQ:Array Int)(o:Option (PA⊕List Int)):Prop:=
 ∃(a2 b2:Nat) (wb2 wp2:Bool) (d4:Array Int),o=some (Sum.inl ((a2:Int),(b2:Int),(lim:Int),wb2,wp2,d4.toList))∧a2≤b2∧b2≤n∧b2 - a2<b - a∧d4.size=n∧Below ltInt a2 b2 d4∧pdq ltInt d4 a2 b2 lim wb2 wp2=PDQ
theorem Next.of{n a b lim:Nat}{PDQ:Array Int}{X o:Option (PA⊕List Int)}(h:X=o)(h2:Next n a b lim PDQ o):Next n a b lim PDQ X:=h▸h2
theorem N0{x y p q:Nat}(h1:q≤p)(h2:y≤x)(hp:p<1000000000000)(hx:x<1000000000000):decide (Go.IntKind.wrap .i64 ((p:Int) - (q:Int))≥Go.IntKind.wrap .i64 (Int.tdiv (Go.IntKind.wrap .i64 ((x:Int) - (y:Int))) 8))=decide (p - q≥(x - y) / 8):=by
 rw[bG (x:=(p:Int) - (q:Int)) (n:=p - q) (by omega) (by omega),bG (x:=(x:Int) - (y:Int)) (n:=x - y) (by omega) (by omega),
  show Int.tdiv ((x - y:Nat):Int) 8=(((x - y) / 8:Nat):Int)from rfl,wrap_i64 (by omega) (by omega)]
 exact decide_eq_decide.2 ⟨fun h=>by omega,fun h=>by omega⟩
theorem sH{S:Nat→EC→Option (List Int)}{N n a b lim p:Nat}{PDQ:Array Int}(e:Array Int)(he:e.size=n)(hs:n<1000000000000)(hN:n+8<N)(hb:b≤n)(hap:a≤p)(hpb:p<b)(hB:Below ltInt a b e)
 (hS:∀(a' b':Nat) (e':Array Int),e'.size=n→a'≤b'→b'≤n→b' - a'<b - a→Below ltInt a' b' e'→S N (e'.toList,n,(a':Int),(b':Int),(lim:Int))=some (pdq ltInt e' a' b' lim true true).toList)
 (hP:(if a≤(partition ltInt e a b p).1∧(partition ltInt e a b p).1<b then
  (if(partition ltInt e a b p).1 - a<b - (partition ltInt e a b p).1 then
   pdq ltInt (pdq ltInt (partition ltInt e a b p).2.2 a (partition ltInt e a b p).1 lim true true) ((partition ltInt e a b p).1+1) b lim (decide ((partition ltInt e a b p).1 - a≥(b - a) / 8)) (partition ltInt e a b p).2.1
  else
   pdq ltInt (pdq ltInt (partition ltInt e a b p).2.2 ((partition ltInt e a b p).1+1) b lim true true) a (partition ltInt e a b p).1 lim (decide (b - (partition ltInt e a b p).1≥(b - a) / 8)) (partition ltInt e a b p).2.1)
  else(partition ltInt e a b p).2.2)=PDQ):
 Next n a b lim PDQ ((av.S N (e.toList,n,(a:Int),(b:Int),(p:Int))).bind fun(r:Int×Bool×List Int)=>
  if decide (Go.IntKind.wrap .i64 (r.1 - (a:Int))<Go.IntKind.wrap .i64 ((b:Int) - r.1))=true then
   (S N (r.2.2,n,(a:Int),r.1,(lim:Int))).bind fun(r':List Int)=>some (Sum.inl (Go.IntKind.wrap .i64 (r.1+1),(b:Int),(lim:Int),decide (Go.IntKind.wrap .i64 (r.1 - (a:Int))≥Go.IntKind.wrap .i64 (Int.tdiv (Go.IntKind.wrap .i64 ((b:Int) - (a:Int))) 8)),r.2.1,r'))
  else
   (S N (r.2.2,n,Go.IntKind.wrap .i64 (r.1+1),(b:Int),(lim:Int))).bind fun(r':List Int)=>some (Sum.inl ((a:Int),r.1,(lim:Int),decide (Go.IntKind.wrap .i64 ((b:Int) - r.1)≥Go.IntKind.wrap .i64 (Int.tdiv (Go.IntKind.wrap .i64 ((b:Int) - (a:Int))) 8)),r.2.1,r'))):=by
 refine Next.of (Wr e he hs hN hb hap hpb _) ?_;obtain⟨mid,ap,d4,hx⟩:∃mid ap d4,partition ltInt e a b p=(mid,ap,d4):=⟨(partition ltInt e a b p).1,(partition ltInt e a b p).2.1,(partition ltInt e a b p).2.2,rfl⟩;obtain⟨r1,r2,r3,r4,r5,r6,r7⟩:=round_part swo_ltInt (partition_holds ltInt) hap hpb (by omega) hB hx
 rw[hx]at hP ⊢;simp only at hP ⊢;rw[if_pos ⟨r1,r2⟩]at hP;by_cases h4:mid - a<b - mid
 ·rw[if_pos h4]at hP;rw[if_pos (by rw[bG (x:=(mid:Int) - (a:Int)) (n:=mid - a) (by omega) (by omega),bG (x:=(b:Int) - (mid:Int)) (n:=b - mid) (by omega) (by omega)];simp;omega)]
  obtain⟨pL,sL⟩:=pdq_sorts ltInt swo_ltInt d4 a mid lim true true (by omega) (by omega) r4
  rw[hS a mid d4 (by omega) (by omega) (by omega) (by omega) r4]
  refine⟨mid+1,b,_,ap,pdq ltInt d4 a mid lim true true,?_,by omega,by omega,by omega,by rw[pL.1];omega,(r6 _ pL sL).1,hP⟩
  show some _=_;rw[N0 (by omega) (by omega) (by omega) (by omega),bG (x:=(mid:Int)+1) (n:=mid+1) (by omega) (by omega)]
 ·rw[if_neg h4]at hP;rw[if_neg (by rw[bG (x:=(mid:Int) - (a:Int)) (n:=mid - a) (by omega) (by omega),bG (x:=(b:Int) - (mid:Int)) (n:=b - mid) (by omega) (by omega)];simp;omega)]
  obtain⟨pL,sL⟩:=pdq_sorts ltInt swo_ltInt d4 (mid+1) b lim true true (by omega) (by omega) r5
  rw[bG (x:=(mid:Int)+1) (n:=mid+1) (by omega) (by omega),hS (mid+1) b d4 (by omega) (by omega) (by omega) (by omega) r5]
  refine⟨a,mid,_,ap,pdq ltInt d4 (mid+1) b lim true true,?_,by omega,by omega,by omega,by rw[pL.1];omega,(r7 _ pL sL).1,hP⟩
  show some _=_;rw[N0 (by omega) (by omega) (by omega) (by omega)]
theorem sI{N n a b lim p:Nat}{wb wp:Bool}{PDQ KPART:Array Int}{PART:Option (PA⊕List Int)}(e:Array Int)(he:e.size=n)(hs:n<1000000000000)(hN:n+8<N)(hb:b≤n)(hap:a≤p)(hpb:p<b)(hB:Below ltInt a b e)
 (hP:(if(decide (a>0)&& !ltInt e[a - 1]! e[p]!)=true then
  (if a<(partitionEqual ltInt e a b p).1∧(partitionEqual ltInt e a b p).1≤b then pdq ltInt (partitionEqual ltInt e a b p).2 (partitionEqual ltInt e a b p).1 b lim wb wp else(partitionEqual ltInt e a b p).2)
  else KPART)=PDQ) (hPart:KPART=PDQ→Next n a b lim PDQ PART):
 Next n a b lim PDQ (if decide ((a:Int)>0)=true then
  (if 0≤Go.IntKind.wrap .i64 ((a:Int) - 1)∧Go.IntKind.wrap .i64 ((a:Int) - 1)<(n:Int)then
   (e.toList[(Go.IntKind.wrap .i64 ((a:Int) - 1)).toNat]?).bind fun x=>
    if 0≤(p:Int)∧(p:Int)<(n:Int)then
     (e.toList[((p:Nat):Int).toNat]?).bind fun y=>
      if(!ltInt x y)=true then
       (aL.S N (e.toList,n,(a:Int),(b:Int),(p:Int))).bind fun(r:Int×List Int)=>some (Sum.inl (r.1,(b:Int),(lim:Int),wb,wp,r.2))
      else PART
    else none
  else none)
  else PART):=by
 by_cases h0:a>0
 ·rw[if_pos (by simp;omega),bG (x:=(a:Int) - 1) (n:=a - 1) (by omega) (by omega),if_pos (dZ (show a - 1<n by omega)),Int.toNat_natCast,bN e (show a - 1<e.size by omega)]
  simp only[Option.bind_some];rw[if_pos (dZ (show p<n by omega)),Int.toNat_natCast,bN e (show p<e.size by omega)]
  simp only[Option.bind_some];cases hc: !ltInt e[a - 1]! e[p]! with
  |false=>
   rw[hc,if_neg (by simp)]at hP
   rw[if_neg (by simp)]
   exact hPart hP
  |true=>
   rw[hc,if_pos (by simp;omega)]at hP
   rw[if_pos rfl];refine Next.of (Ws e he hs hN hb hap hpb _) ?_;obtain⟨mid,d4,hx⟩:∃mid d4,partitionEqual ltInt e a b p=(mid,d4):=⟨(partitionEqual ltInt e a b p).1,(partitionEqual ltInt e a b p).2,rfl⟩;obtain⟨r1,r2,r3,r4,_⟩:=round_eq swo_ltInt (partitionEqual_holds ltInt) h0 hap hpb (by omega) hB (by simpa using hc) hx
   rw[hx]at hP ⊢;simp only at hP ⊢;rw[if_pos ⟨r1,r2⟩]at hP;exact⟨mid,b,wb,wp,d4,rfl,r2,hb,by omega,by omega,r4,hP⟩
 ·rw[if_neg (by simp;omega)]at hP
  rw[if_neg (by simp;omega)]
  exact hPart hP
theorem uM{n a b L lim0 k0:Nat}{PDQ:Array Int}{A:List Int→Prop}{X:Option (PA⊕List Int)}(h:Next n a b L PDQ X)(hL:L≤lim0)(hk:b - a≤k0):
 (∃t,X=some (.inr t)∧A t)∨∃s',X=some (.inl s')∧(∃(a b lim:Nat) (wb wp:Bool) (d:Array Int),s'=((a:Int),(b:Int),(lim:Int),wb,wp,d.toList)∧a≤b∧b≤n∧b - a≤k0∧lim≤lim0∧d.size=n∧Below ltInt a b d∧pdq ltInt d a b lim wb wp=PDQ)∧(s'.2.1 - s'.1).toNat<((b:Int) - (a:Int)).toNat:=by
 obtain⟨a2,b2,wb2,wp2,d4,hX,h1,h2,h3,h4,h5,h6⟩:=h;right;exact⟨_,hX,⟨a2,b2,L,wb2,wp2,d4,rfl,h1,h2,by omega,hL,h4,h5,h6⟩,by simp only;omega⟩
theorem vl:∀(M N n a b lim:Nat) (d:Array Int),d.size=n→b - a<M→n<1000000000000→n+8<N→a≤b→b≤n→lim<1000000000000→Below ltInt a b d→
 (vT M).1 N (d.toList,n,(a:Int),(b:Int),(lim:Int))=some (pdq ltInt d a b lim true true).toList
 | 0,_,_,_,_,_,_,_,h,_,_,_,_,_,_=>absurd h (Nat.not_lt_zero _)
 |M+1,N,n,a0,b0,lim0,d0,hd,hM,hs,hN,hab0,hb0,hl0,hB0=>by
  show(kD (vT M).1 (vT M).2 d0.toList n (a0:Int) (b0:Int) (lim0:Int)).run N=_;simp only[kD,G.run,aI,if_true,cQ,iq,vZ];refine qd (I:=fun s=>∃(a b lim:Nat) (wb wp:Bool) (d:Array Int),s=((a:Int),(b:Int),(lim:Int),wb,wp,d.toList)∧a≤b∧b≤n∧b - a≤b0 - a0∧lim≤lim0∧d.size=n∧Below ltInt a b d∧pdq ltInt d a b lim wb wp=pdq ltInt d0 a0 b0 lim0 true true) (m:=fun s=>(s.2.1 - s.1).toNat)
   (Q:=fun t=>t=(pdq ltInt d0 a0 b0 lim0 true true).toList)
   ⟨a0,b0,lim0,true,true,d0,rfl,hab0,hb0,Nat.le_refl _,Nat.le_refl _,hd,hB0,rfl⟩ (by simp only;omega) (fun s hs'=>?_) (fun t ht=>by subst ht;rfl)
  obtain⟨a,b,lim,wb,wp,d,rfl,hab,hb,hk,hlim,hds,hBel,heq⟩:=hs';simp only
  by_cases h12:b - a≤12
  ·rw[if_pos (by rw[bG (x:=(b:Int) - (a:Int)) (n:=b - a) (by omega) (by omega)];simp;omega)]
   left;refine⟨_,Wp d hds hs hN hb hab _,?_⟩;rw[← heq,pdq_small h12]
  rw[if_neg (by rw[bG (x:=(b:Int) - (a:Int)) (n:=b - a) (by omega) (by omega)];simp;omega)]
  by_cases hl:lim=0
  ·rw[if_pos (by subst hl;rfl)]
   left;refine⟨_,Vo d hds hs hN hb hab _,?_⟩;rw[← heq,pdq_heap h12 hl]
  rw[if_neg (by simp;omega)]
  obtain⟨s1,B1,hc1,s2,B2,hpv,s3,B3⟩:=rd_facts (limit:=lim) (wb:=wb) (wp:=wp) swo_ltInt partialInsertionSort_holds reverseRange_holds (show a<b by omega) (by omega) hBel
  rw[pdq_unfold,if_neg h12,if_neg hl]at heq;have key:∀(E:Array Int) (P L:Nat),(rd ltInt d a b lim wb wp).pi.1=E→(rd ltInt d a b lim wb wp).pivot=P→(rd ltInt d a b lim wb wp).lim=L→(rd ltInt d a b lim wb wp).pi.2=false→
   E.size=n∧Below ltInt a b E∧(a≤P∧P<b)∧(if(decide (a>0)&& !ltInt E[a - 1]! E[P]!)=true then
    (if a<(partitionEqual ltInt E a b P).1∧(partitionEqual ltInt E a b P).1≤b then pdq ltInt (partitionEqual ltInt E a b P).2 (partitionEqual ltInt E a b P).1 b L wb wp else(partitionEqual ltInt E a b P).2)
   else(if a≤(partition ltInt E a b P).1∧(partition ltInt E a b P).1<b then
    (if(partition ltInt E a b P).1 - a<b - (partition ltInt E a b P).1 then
     pdq ltInt (pdq ltInt (partition ltInt E a b P).2.2 a (partition ltInt E a b P).1 L true true) ((partition ltInt E a b P).1+1) b L (decide ((partition ltInt E a b P).1 - a≥(b - a) / 8)) (partition ltInt E a b P).2.1
    else
     pdq ltInt (pdq ltInt (partition ltInt E a b P).2.2 ((partition ltInt E a b P).1+1) b L true true) a (partition ltInt E a b P).1 L (decide (b - (partition ltInt E a b P).1≥(b - a) / 8)) (partition ltInt E a b P).2.1)
    else(partition ltInt E a b P).2.2))=pdq ltInt d0 a0 b0 lim0 true true:=by
   rintro _ _ _ rfl rfl rfl hp;refine⟨by omega,B3,hpv,?_⟩
   rw[if_neg (by rw[hp];simp)]at heq
   exact heq
  cases wb with
  |false=>
   rw[if_pos (show(!false)=true from rfl)];refine sD (Wq d hds hs hN hb hab _) ?_;refine sD (Uf (breakPatterns d a b) (by rw[← hds];exact s1) hs hN hb (by omega) _) ?_
   simp only[bG (x:=(lim:Int) - 1) (n:=lim - 1) (by omega) (by omega),bG (x:=(b:Int) - 1) (n:=b - 1) (by omega) (by omega)]
   have c1:a≤(choosePivot ltInt (breakPatterns d a b) a b).1∧(choosePivot ltInt (breakPatterns d a b) a b).1<b:=hc1;by_cases hdec:(rd ltInt d a b lim false wp).c.2=.decreasing
   ·have hd:(choosePivot ltInt (breakPatterns d a b) a b).2=.decreasing:=hdec;obtain⟨e1,e2,_⟩:=rd_dec hdec;rw[if_pos (by rw[hd];rfl)]
    refine sD (Ud (breakPatterns d a b) (by rw[← hds];exact s1) hs hN hb (by omega) _) ?_
    rw[if_neg (by simp)]
    simp only[bG (x:=((choosePivot ltInt (breakPatterns d a b) a b).1:Int) - (a:Int)) (n:=(choosePivot ltInt (breakPatterns d a b) a b).1 - a) (by omega) (by omega),bG (x:=((b - 1:Nat):Int) - (((choosePivot ltInt (breakPatterns d a b) a b).1 - a:Nat):Int)) (n:=b - 1 - ((choosePivot ltInt (breakPatterns d a b) a b).1 - a)) (by omega) (by omega)]
    obtain⟨k1,k2,k3,k4⟩:=key (reverseRange (breakPatterns d a b) a b) (b - 1 - ((choosePivot ltInt (breakPatterns d a b) a b).1 - a)) (lim - 1) (by rw[rd_pi_no rfl];exact e1) e2 rfl (by rw[rd_pi_no rfl])
    exact uM (L:=lim - 1) (sI (reverseRange (breakPatterns d a b) a b) k1 hs hN hb k3.1 k3.2 k2 k4 fun hk2=>sH (reverseRange (breakPatterns d a b) a b) k1 hs hN hb k3.1 k3.2 k2 (fun a' b' e' g1 g2 g3 g4 g5=>vl M N n a' b' (lim - 1) e' g1 (by omega) hs hN g2 g3 (by omega) g5) hk2) (by omega) hk
   ·have hd:(choosePivot ltInt (breakPatterns d a b) a b).2≠ .decreasing:=hdec;obtain⟨e1,e2,_⟩:=rd_not hdec;rw[if_neg (by revert hd;cases(choosePivot ltInt (breakPatterns d a b) a b).2<;>simp[hintCode])]
    rw[if_neg (by simp)]
    obtain⟨k1,k2,k3,k4⟩:=key (breakPatterns d a b) ((choosePivot ltInt (breakPatterns d a b) a b).1) (lim - 1) (by rw[rd_pi_no rfl];exact e1) e2 rfl (by rw[rd_pi_no rfl])
    exact uM (L:=lim - 1) (sI (breakPatterns d a b) k1 hs hN hb k3.1 k3.2 k2 k4 fun hk2=>sH (breakPatterns d a b) k1 hs hN hb k3.1 k3.2 k2 (fun a' b' e' g1 g2 g3 g4 g5=>vl M N n a' b' (lim - 1) e' g1 (by omega) hs hN g2 g3 (by omega) g5) hk2) (by omega) hk
  |true=>
   rw[if_neg (by simp)]
   refine sD (Uf d hds hs hN hb (by omega) _) ?_
   simp only[bG (x:=(b:Int) - 1) (n:=b - 1) (by omega) (by omega)]
   have c1:a≤(choosePivot ltInt d a b).1∧(choosePivot ltInt d a b).1<b:=hc1;by_cases hdec:(rd ltInt d a b lim true wp).c.2=.decreasing
   ·have hd:(choosePivot ltInt d a b).2=.decreasing:=hdec;obtain⟨e1,e2,e3⟩:=rd_dec hdec;have hz:(reverseRange d a b).size=n:=by
     have:(rd ltInt d a b lim true wp).d2.size=n:=by rw[s2,hds]
     rw[e1]at this;exact this
    rw[if_pos (by rw[hd];rfl)]
    refine sD (Ud d hds hs hN hb (by omega) _) ?_
    rw[if_pos trivial];simp only[bG (x:=((choosePivot ltInt d a b).1:Int) - (a:Int)) (n:=(choosePivot ltInt d a b).1 - a) (by omega) (by omega),bG (x:=((b - 1:Nat):Int) - (((choosePivot ltInt d a b).1 - a:Nat):Int)) (n:=b - 1 - ((choosePivot ltInt d a b).1 - a)) (by omega) (by omega)]
    cases wp with
    |true=>
     rw[if_pos (show true=true from rfl)];refine sD (Ue (reverseRange d a b) hz hs hN hb (by omega) _) ?_
     have hpi:=rd_pi_yes (lt:=ltInt) (d:=d) (a:=a) (b:=b) (limit:=lim) (wb:=true) (wp:=true) (by rw[e3];rfl)
     rw[e1]at hpi;cases hp:(partialInsertionSort ltInt (reverseRange d a b) a b).2 with
     |true=>
      rw[if_pos (show(true,(partialInsertionSort ltInt (reverseRange d a b) a b).1.toList).1=true from rfl)];left;refine⟨_,rfl,?_⟩;rw[if_pos (by rw[hpi];exact hp)]at heq
      rw[← heq,hpi];rfl
     |false=>
      rw[if_neg (by simp)]
      obtain⟨k1,k2,k3,k4⟩:=key ((partialInsertionSort ltInt (reverseRange d a b) a b).1) (b - 1 - ((choosePivot ltInt d a b).1 - a)) (lim) (by rw[hpi];rfl) e2 rfl (by rw[hpi];exact hp)
      exact uM (L:=lim) (sI ((partialInsertionSort ltInt (reverseRange d a b) a b).1) k1 hs hN hb k3.1 k3.2 k2 k4 fun hk2=>sH ((partialInsertionSort ltInt (reverseRange d a b) a b).1) k1 hs hN hb k3.1 k3.2 k2 (fun a' b' e' g1 g2 g3 g4 g5=>vl M N n a' b' (lim) e' g1 (by omega) hs hN g2 g3 (by omega) g5) hk2) (by omega) hk
    |false=>
     rw[if_neg (by simp)]
     obtain⟨k1,k2,k3,k4⟩:=key (reverseRange d a b) (b - 1 - ((choosePivot ltInt d a b).1 - a)) (lim) (by rw[rd_pi_no rfl];exact e1) e2 rfl (by rw[rd_pi_no rfl])
     exact uM (L:=lim) (sI (reverseRange d a b) k1 hs hN hb k3.1 k3.2 k2 k4 fun hk2=>sH (reverseRange d a b) k1 hs hN hb k3.1 k3.2 k2 (fun a' b' e' g1 g2 g3 g4 g5=>vl M N n a' b' (lim) e' g1 (by omega) hs hN g2 g3 (by omega) g5) hk2) (by omega) hk
   ·have hd:(choosePivot ltInt d a b).2≠ .decreasing:=hdec;obtain⟨e1,e2,e3⟩:=rd_not hdec;rw[if_neg (by revert hd;cases(choosePivot ltInt d a b).2<;>simp[hintCode])]
    rw[if_pos trivial];cases wp with
    |true=>
     rw[if_pos (show true=true from rfl)];by_cases hinc:(choosePivot ltInt d a b).2=.increasing
     ·rw[if_pos (by rw[hinc];rfl)]
      refine sD (Ue (d) hds hs hN hb (by omega) _) ?_
      have hpi:=rd_pi_yes (lt:=ltInt) (d:=d) (a:=a) (b:=b) (limit:=lim) (wb:=true) (wp:=true) (by rw[e3,show(rd ltInt d a b lim true true).c.2=.increasing from hinc];rfl)
      rw[e1]at hpi;cases hp:(partialInsertionSort ltInt (d) a b).2 with
      |true=>
       rw[if_pos (show(true,(partialInsertionSort ltInt (d) a b).1.toList).1=true from rfl)];left;refine⟨_,rfl,?_⟩;rw[if_pos (by rw[hpi];exact hp)]at heq
       rw[← heq,hpi];rfl
      |false=>
       rw[if_neg (by simp)]
       obtain⟨k1,k2,k3,k4⟩:=key ((partialInsertionSort ltInt (d) a b).1) ((choosePivot ltInt d a b).1) (lim) (by rw[hpi];rfl) e2 rfl (by rw[hpi];exact hp)
       exact uM (L:=lim) (sI ((partialInsertionSort ltInt (d) a b).1) k1 hs hN hb k3.1 k3.2 k2 k4 fun hk2=>sH ((partialInsertionSort ltInt (d) a b).1) k1 hs hN hb k3.1 k3.2 k2 (fun a' b' e' g1 g2 g3 g4 g5=>vl M N n a' b' (lim) e' g1 (by omega) hs hN g2 g3 (by omega) g5) hk2) (by omega) hk
     ·rw[if_neg (by revert hd hinc;cases(choosePivot ltInt d a b).2<;>simp[hintCode])]
      have hno:(true&&true&&decide ((rd ltInt d a b lim true true).hint=.increasing))=false:=by
       rw[e3];simp;exact hinc
      obtain⟨k1,k2,k3,k4⟩:=key (d) ((choosePivot ltInt d a b).1) (lim) (by rw[rd_pi_no hno];exact e1) e2 rfl (by rw[rd_pi_no hno])
      exact uM (L:=lim) (sI (d) k1 hs hN hb k3.1 k3.2 k2 k4 fun hk2=>sH (d) k1 hs hN hb k3.1 k3.2 k2 (fun a' b' e' g1 g2 g3 g4 g5=>vl M N n a' b' (lim) e' g1 (by omega) hs hN g2 g3 (by omega) g5) hk2) (by omega) hk
    |false=>
     rw[if_neg (by simp)]
     obtain⟨k1,k2,k3,k4⟩:=key (d) ((choosePivot ltInt d a b).1) (lim) (by rw[rd_pi_no rfl];exact e1) e2 rfl (by rw[rd_pi_no rfl])
     exact uM (L:=lim) (sI (d) k1 hs hN hb k3.1 k3.2 k2 k4 fun hk2=>sH (d) k1 hs hN hb k3.1 k3.2 k2 (fun a' b' e' g1 g2 g3 g4 g5=>vl M N n a' b' (lim) e' g1 (by omega) hs hN g2 g3 (by omega) g5) hk2) (by omega) hk
end Go.L
