/- Parts of the library's sort of numbers, continued: partialInsertionSort. No conditions. -/
import Derived.Test.YtpgpmlaafigpaaaGreatDoorPSp
namespace Go.L
open Go.AM Go.Sort
set_option maxRecDepth 100000
set_option linter.unusedSimpArgs false
set_option linter.unusedVariables false
theorem Nb{β:Type}{f:Int→Option (Int⊕Int)}{k:Int→Option β}{N:Nat}{r:Option β}(e:Array Int)(b i0:Nat)(hi:i0≤b)(hN:b+1<N)
 (hf:∀i:Nat,i0≤i→i<b→f (i:Int)=if(!ltInt e[i]! e[i - 1]!)=true then some (.inl ((i+1:Nat):Int))else some (.inr (i:Int))) (hx:f (b:Int)=some (.inr (b:Int)))
 (hk:k ((scanSorted ltInt e b i0:Nat):Int)=r):(bZ f N (i0:Int)).bind k=r:=by
 refine kP (I:=fun s=>∃i:Nat,s=(i:Int)∧i0≤i∧i≤b∧scanSorted ltInt e b i=scanSorted ltInt e b i0) (m:=fun s=>b - s.toNat) (F:=fun _=>((scanSorted ltInt e b i0:Nat):Int)) ⟨i0,rfl,Nat.le_refl _,hi,rfl⟩ (by simp only[Int.toNat_natCast];omega) (fun s hs=>?_) hk
 obtain⟨i,rfl,h1,h2,h3⟩:=hs;rw[scanSorted]at h3;by_cases hib:i<b
 ·rw[hf i h1 hib];cases hp: !ltInt e[i]! e[i - 1]! with
  |true=>
   rw[hp,if_pos (by simp;omega)]at h3
   right;exact⟨((i+1:Nat):Int),by simp,⟨i+1,rfl,by omega,by omega,h3⟩,rfl,by simp only[Int.toNat_natCast];omega⟩
  |false=>
   rw[hp,if_neg (by simp)]at h3
   left;rw[if_neg (by simp),h3]
 ·have:i=b:=by omega
  subst this;rw[if_neg (by simp)]at h3
  left;rw[hx,← h3]
theorem DO(e:Array Int)(b:Nat):∀(n i:Nat),b - i≤n→i≤b→i≤scanSorted ltInt e b i∧scanSorted ltInt e b i≤b
 | 0,i,h,h2=>by
  rw[scanSorted,if_neg (by simp;omega)];omega
 |n+1,i,h,h2=>by
  rw[scanSorted];split
  ·rename_i hc;simp only[Bool.and_eq_true,decide_eq_true_eq]at hc;have:=DO e b n (i+1) (by omega) (by omega)
   omega
  ·omega
theorem Cx:∀(j:Nat) (d:Array Int),(shiftDown ltInt j d).size=d.size
 | 0,d=>rfl
 |j+1,d=>by
  rw[shiftDown];split
  ·rfl
  ·rw[Cx j,eE]
theorem Ao(b:Nat):∀(n j:Nat) (d:Array Int),b - j≤n→(shiftUp ltInt b j d).size=d.size
 | 0,j,d,h=>by rw[shiftUp,if_neg (by omega)]
 |n+1,j,d,h=>by
  rw[shiftUp];split
  ·split
   ·rfl
   ·rw[Ao b n (j+1) _ (by omega),eE]
  ·rfl
theorem I1{β:Type}{f:Int×List Int→Option ((Int×List Int)⊕List Int)}{k:List Int→Option β}{N:Nat}{r:Option β}(n j0:Nat)(q0:Array Int)(h0:q0.size=n)(hN:j0+1<N)
 (hx:∀q:Array Int,q.size=n→f (((0:Nat):Int),q.toList)=some (.inr q.toList))
 (hf:∀(j:Nat) (q:Array Int),j<j0→q.size=n→f (((j+1:Nat):Int),q.toList)=if(!ltInt q[j+1]! q[j]!)=true then some (.inr q.toList)else some (.inl ((j:Int),(swp q (j+1) j).toList)))
 (hk:k (shiftDown ltInt j0 q0).toList=r):(bZ f N ((j0:Int),q0.toList)).bind k=r:=by
 refine kP (I:=fun s=>∃(j:Nat) (q:Array Int),s=((j:Int),q.toList)∧j≤j0∧q.size=n∧shiftDown ltInt j q=shiftDown ltInt j0 q0) (m:=fun s=>s.1.toNat) (F:=fun _=>(shiftDown ltInt j0 q0).toList) ⟨j0,q0,rfl,Nat.le_refl _,h0,rfl⟩ (by simp only[Int.toNat_natCast];omega) (fun s hs=>?_) hk
 obtain⟨j,q,rfl,h1,h2,h3⟩:=hs;cases j with
 |zero=>left;rw[hx q h2,← h3];rfl
 |succ j=>
  rw[hf j q (by omega) h2]
  rw[shiftDown]at h3;cases hp: !ltInt q[j+1]! q[j]! with
  |true=>rw[hp,if_pos rfl]at h3;left;rw[if_pos rfl,h3]
  |false=>
   rw[hp,if_neg (by simp)]at h3
   right;exact⟨_,if_neg (by simp),⟨j,_,rfl,by omega,by rw[eE];exact h2,h3⟩,rfl,by simp only[Int.toNat_natCast];omega⟩
theorem EJ{β:Type}{f:Int×List Int→Option ((Int×List Int)⊕List Int)}{k:List Int→Option β}{N:Nat}{r:Option β}(n b j0:Nat)(q0:Array Int)(h0:q0.size=n)(hj:j0≤b)(hN:b+1<N)
 (hx:∀q:Array Int,q.size=n→f ((b:Int),q.toList)=some (.inr q.toList))
 (hf:∀(j:Nat) (q:Array Int),j0≤j→j<b→q.size=n→f ((j:Int),q.toList)=if(!ltInt q[j]! q[j - 1]!)=true then some (.inr q.toList)else some (.inl (((j+1:Nat):Int),(swp q j (j - 1)).toList)))
 (hk:k (shiftUp ltInt b j0 q0).toList=r):(bZ f N ((j0:Int),q0.toList)).bind k=r:=by
 refine kP (I:=fun s=>∃(j:Nat) (q:Array Int),s=((j:Int),q.toList)∧j0≤j∧j≤b∧q.size=n∧shiftUp ltInt b j q=shiftUp ltInt b j0 q0) (m:=fun s=>b - s.1.toNat) (F:=fun _=>(shiftUp ltInt b j0 q0).toList) ⟨j0,q0,rfl,Nat.le_refl _,hj,h0,rfl⟩ (by simp only[Int.toNat_natCast];omega) (fun s hs=>?_) hk
 obtain⟨j,q,rfl,h1,hb,h2,h3⟩:=hs;rw[shiftUp]at h3;by_cases hjb:j<b
 ·rw[hf j q h1 hjb h2];rw[if_pos hjb]at h3;cases hp: !ltInt q[j]! q[j - 1]! with
  |true=>rw[hp,if_pos rfl]at h3;left;rw[if_pos rfl,h3]
  |false=>
   rw[hp,if_neg (by simp)]at h3
   right;exact⟨_,if_neg (by simp),⟨j+1,_,rfl,by omega,by omega,by rw[eE];exact h2,h3⟩,rfl,by simp only[Int.toNat_natCast];omega⟩
 ·have:j=b:=by omega
  subst this;rw[if_neg hjb]at h3;left;rw[hx q h2,← h3]
theorem sD{σ τ:Type}{X o:Option (σ⊕τ)}{A:τ→Prop}{B:σ→Prop}(h:X=o)(h2:(∃t,o=some (.inr t)∧A t)∨∃s',o=some (.inl s')∧B s'):(∃t,X=some (.inr t)∧A t)∨∃s',X=some (.inl s')∧B s':=h▸h2
theorem partialIns_succ(a b s i:Nat)(d:Array Int):partialIns ltInt a b (s+1) i d=
 (if scanSorted ltInt d b i=b then(d,true)else if b - a<50 then(d,false)else
  partialIns ltInt a b s (scanSorted ltInt d b i)
   (if b - scanSorted ltInt d b i≥2 then shiftUp ltInt b (scanSorted ltInt d b i+1) (if scanSorted ltInt d b i - a≥2 then shiftDown ltInt (scanSorted ltInt d b i - 1) (swp d (scanSorted ltInt d b i) (scanSorted ltInt d b i - 1))else swp d (scanSorted ltInt d b i) (scanSorted ltInt d b i - 1))
    else(if scanSorted ltInt d b i - a≥2 then shiftDown ltInt (scanSorted ltInt d b i - 1) (swp d (scanSorted ltInt d b i) (scanSorted ltInt d b i - 1))else swp d (scanSorted ltInt d b i) (scanSorted ltInt d b i - 1)))):=rfl
theorem I2(N:Nat)(d:Array Int)(a b:Nat)(hb:b≤d.size)(hab:a<b)(hs:d.size<1000000000000)(hN:d.size+8<N):
 bW.S N (d.toList,d.size,(a:Int),(b:Int))=some ((partialInsertionSort ltInt d a b).2,(partialInsertionSort ltInt d a b).1.toList):=by
 show(gd d.toList d.size (a:Int) (b:Int)).run N=_;simp only[gd,G.run,aI,if_true,cQ,iq,fe,vZ,bG (x:=(a:Int)+1) (n:=a+1) (by omega) (by omega),bG (x:=(b:Int) - (a:Int)) (n:=b - a) (by omega) (by omega)]
 have hR:partialInsertionSort ltInt d a b=partialIns ltInt a b 5 (a+1) d:=rfl;rw[hR];generalize hn:d.size=n at*;refine qd (I:=fun s=>∃(i j:Nat) (q:Array Int),s=((i:Int),(j:Int),q.toList)∧a+1≤i∧i≤b∧j≤5∧q.size=n∧partialIns ltInt a b (5 - j) i q=partialIns ltInt a b 5 (a+1) d) (m:=fun s=>(5 - s.2.1).toNat)
  (Q:=fun t=>t=(if(partialIns ltInt a b 5 (a+1) d).2=true then Sum.inl (true,(partialIns ltInt a b 5 (a+1) d).1.toList)else Sum.inr (partialIns ltInt a b 5 (a+1) d).1.toList)∨t=Sum.inl ((partialIns ltInt a b 5 (a+1) d).2,(partialIns ltInt a b 5 (a+1) d).1.toList))
  ⟨a+1,0,d,rfl,by omega,by omega,by omega,hn,rfl⟩ (by simp only;omega) (fun s hs'=>?_) (fun t ht=>?_)
 ·obtain⟨i,j,q,rfl,h1,h2,h3,h4,h5⟩:=hs';simp only
  by_cases hj:j<5
  ·rw[if_pos (by simp;omega)]
   obtain⟨s,hs5⟩:∃s,5 - j=s+1:=⟨4 - j,by omega⟩
   rw[hs5,partialIns_succ]at h5;have hg:=DO q b _ i (Nat.le_refl _) h2;refine sD (Nb q b i (by omega) (by omega) (fun i' g1 g2=>?_) ?_ rfl) ?_
   ·rw[if_pos (by simp;omega)]
    simp only[if_pos (dZ (show i'<n by omega)),Int.toNat_natCast,bN q (show i'<q.size by omega),Option.bind_some,bG (x:=(i':Int) - 1) (n:=i' - 1) (by omega) (by omega),if_pos (dZ (show i' - 1<n by omega)),bN q (show i' - 1<q.size by omega),bG (x:=(i':Int)+1) (n:=i'+1) (by omega) (by omega)]
    try rfl
   ·rw[if_neg (by simp)]
    try rfl
   generalize scanSorted ltInt q b i=u at*;by_cases hub:u=b
   ·rw[if_pos hub]at h5;rw[if_pos (by simp;omega)]
    left;refine⟨_,rfl,?_⟩;right;rw[← h5];rfl
   rw[if_neg hub]at h5;rw[if_neg (by simp;omega)]
   by_cases hba:b - a<50
   ·rw[if_pos hba]at h5;rw[if_pos (by simp;omega)]
    left;refine⟨_,rfl,?_⟩;right;rw[← h5];rfl
   rw[if_neg hba]at h5;rw[if_neg (by simp;omega)]
   simp only[cQ,iq,fe,Int.toNat_natCast,bG (x:=(u:Int) - 1) (n:=u - 1) (by omega) (by omega),if_pos (dZ (show u<n by omega)),bN q (show u<q.size by omega),Option.bind_some,if_pos (dZ (show u - 1<n by omega)),bN q (show u - 1<q.size by omega),bG (x:=(u:Int)+1) (n:=u+1) (by omega) (by omega),bG (x:=(u:Int) - (a:Int)) (n:=u - a) (by omega) (by omega),bG (x:=(b:Int) - (u:Int)) (n:=b - u) (by omega) (by omega),bG (x:=(j:Int)+1) (n:=j+1) (by omega) (by omega)]
   rw[jD,bN _ (by simp;omega)]
   simp only[Option.bind_some,← jD,nv];have hz:(swp q u (u - 1)).size=n:=by rw[eE];exact h4
   generalize swp q u (u - 1)=e at*;by_cases hua:u - a≥2
   ·rw[if_pos hua]at h5;rw[if_pos (by simp;omega)]
    refine sD (I1 n (u - 1) e hz (by omega) (fun q' g1=>?_) (fun j' q' g1 g2=>?_) rfl) ?_
    ·rw[if_neg (by simp)]
     try rfl
    ·rw[if_pos (by simp;omega)]
     simp only[if_pos (dZ (show j'+1<n by omega)),Int.toNat_natCast,bN q' (show j'+1<q'.size by omega),Option.bind_some,bG (x:=((j'+1:Nat):Int) - 1) (n:=j') (by omega) (by omega),if_pos (dZ (show j'<n by omega)),bN q' (show j'<q'.size by omega)]
     rw[jD,bN _ (by simp;omega)]
     simp only[Option.bind_some,← jD,nv]
     try rfl
    have hz2:(shiftDown ltInt (u - 1) e).size=n:=by rw[Cx];exact hz
    generalize shiftDown ltInt (u - 1) e=e3 at*;by_cases hbu:b - u≥2
    ·rw[if_pos hbu]at h5;rw[if_pos (by simp;omega)]
     refine sD (EJ n b (u+1) e3 hz2 (by omega) (by omega) (fun q' g1=>?_) (fun j' q' g1 g2 g3=>?_) rfl) ?_
     ·rw[if_neg (by simp)]
      try rfl
     ·rw[if_pos (by simp;omega)]
      simp only[if_pos (dZ (show j'<n by omega)),Int.toNat_natCast,bN q' (show j'<q'.size by omega),Option.bind_some,bG (x:=(j':Int) - 1) (n:=j' - 1) (by omega) (by omega),if_pos (dZ (show j' - 1<n by omega)),bN q' (show j' - 1<q'.size by omega),bG (x:=(j':Int)+1) (n:=j'+1) (by omega) (by omega)]
      rw[jD,bN _ (by simp;omega)]
      simp only[Option.bind_some,← jD,nv]
      try rfl
     right;exact⟨_,rfl,⟨u,j+1,_,rfl,by omega,by omega,by omega,by rw[Ao b _ _ _ (Nat.le_refl _)];exact hz2,by rw[show 5 - (j+1)=s by omega];exact h5⟩,by simp only;omega⟩
    ·rw[if_neg hbu]at h5;rw[if_neg (by simp;omega)]
     right;exact⟨_,rfl,⟨u,j+1,_,rfl,by omega,by omega,by omega,hz2,by rw[show 5 - (j+1)=s by omega];exact h5⟩,by simp only;omega⟩
   ·rw[if_neg hua]at h5;rw[if_neg (by simp;omega)]
    by_cases hbu:b - u≥2
    ·rw[if_pos hbu]at h5;rw[if_pos (by simp;omega)]
     refine sD (EJ n b (u+1) e hz (by omega) (by omega) (fun q' g1=>?_) (fun j' q' g1 g2 g3=>?_) rfl) ?_
     ·rw[if_neg (by simp)]
      try rfl
     ·rw[if_pos (by simp;omega)]
      simp only[if_pos (dZ (show j'<n by omega)),Int.toNat_natCast,bN q' (show j'<q'.size by omega),Option.bind_some,bG (x:=(j':Int) - 1) (n:=j' - 1) (by omega) (by omega),if_pos (dZ (show j' - 1<n by omega)),bN q' (show j' - 1<q'.size by omega),bG (x:=(j':Int)+1) (n:=j'+1) (by omega) (by omega)]
      rw[jD,bN _ (by simp;omega)]
      simp only[Option.bind_some,← jD,nv]
      try rfl
     right;exact⟨_,rfl,⟨u,j+1,_,rfl,by omega,by omega,by omega,by rw[Ao b _ _ _ (Nat.le_refl _)];exact hz,by rw[show 5 - (j+1)=s by omega];exact h5⟩,by simp only;omega⟩
    ·rw[if_neg hbu]at h5;rw[if_neg (by simp;omega)]
     right;exact⟨_,rfl,⟨u,j+1,_,rfl,by omega,by omega,by omega,hz,by rw[show 5 - (j+1)=s by omega];exact h5⟩,by simp only;omega⟩
  ·have:j=5:=by omega
   subst this;rw[if_neg (by simp)]
   left;refine⟨_,rfl,?_⟩;left;rw[← h5];rfl
 ·rcases ht with rfl |rfl
  ·cases hc:(partialIns ltInt a b 5 (a+1) d).2 with
   |true=>simp only[if_true];rfl
   |false=>
    simp
    rfl
  ·rfl
end Go.L
