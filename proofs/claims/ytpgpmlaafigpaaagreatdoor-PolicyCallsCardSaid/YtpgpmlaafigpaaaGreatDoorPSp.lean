/- What the library's sort of numbers computes: the guides' programs are the kit's functions (the parts). No conditions. -/
import Derived.Test.YtpgpmlaafigpaaaGreatDoorWSb
import Derived.Test.YtpgpmlaafigpaaaGreatDoorAd
import Derived.Sort.AssemblyPlain
namespace Go.L
open Go.AM Go.Sort
set_option maxRecDepth 100000
set_option linter.unusedSimpArgs false
set_option linter.unusedVariables false
theorem JM{σ τ:Type}{f:σ→Option (σ⊕τ)}(I:σ→Prop)(m:σ→Nat)(F:σ→τ)(step:∀s,I s→f s=some (.inr (F s))∨∃s',f s=some (.inl s')∧I s'∧F s'=F s∧m s'<m s):
 ∀(N:Nat) (s:σ),I s→m s<N→bZ f N s=some (F s)
 | 0,s,_,h=>absurd h (Nat.not_lt_zero _)
 |N+1,s,hi,h=>by
  rcases step s hi with e |⟨s',e,hi',hF,hm⟩
  ·simp only[bZ,e]
  ·simp only[bZ,e];rw[JM I m F step N s' hi' (by omega),hF]
theorem kP{σ τ β:Type}{f:σ→Option (σ⊕τ)}{k:τ→Option β}{N:Nat}{s:σ}{r:Option β}(I:σ→Prop)(m:σ→Nat)(F:σ→τ)(hI:I s)(hm:m s<N)
 (step:∀s,I s→f s=some (.inr (F s))∨∃s',f s=some (.inl s')∧I s'∧F s'=F s∧m s'<m s) (hk:k (F s)=r):(bZ f N s).bind k=r:=by
 rw[JM I m F step N s hI hm];exact hk
theorem vZ{n:Nat}(x y:Int){β:Type}(k:aQ.sh.El→Option β):(aQ.S n (x,y)).bind k=k (ltInt x y):=by
 have:aQ.S n (x,y)=some (ltInt x y):=by
  show(nh x y).run n=_;have e:∀(z:Int),dS.S n z=some false:=fun z=>by
   show(l9 z).run n=_;simp only[l9,G.run,aI,if_true];rw[show(z != z)=false by simp]
   rfl
  have eb:∀(z:Int) {β:Type} (k:dS.sh.El→Option β),(dS.S n z).bind k=k false:=fun z β k=>by rw[e];rfl
  simp only[nh,G.run,aI,if_true,eb,Bool.false_eq_true,if_false,ltInt];rfl
 rw[this];rfl
theorem bN(d:Array Int){i:Nat}(h:i<d.size):d.toList[i]? =some d[i]! :=by
 rw[getElem!_pos d i h];simp[h]
theorem jD(d:Array Int)(i:Nat)(x:Int):d.toList.set i x=(d.setIfInBounds i x).toList:=by simp
theorem nv(d:Array Int)(i j:Nat):(d.toList.set i d[j]!).set j d[i]! =(swp d i j).toList:=by simp[swp]
theorem eE(d:Array Int)(i j:Nat):(swp d i j).size=d.size:=by simp[swp]
theorem fe{X β:Type}(l:List X)(enc:X→List AVal)(n b ai i o:Nat)(y:X→X)(k:X→Option β):(ig l enc n b ai i o y).run.bind k=(l[i]?).bind k:=rfl
theorem DN(a:Nat):∀(j:Nat) (d:Array Int),(insInner ltInt a j d).size=d.size
 | 0,d=>rfl
 |j+1,d=>by
  rw[insInner];split
  ·rw[DN a j,eE]
  ·rfl
theorem Kk(N:Nat)(d:Array Int)(a b:Nat)(hb:b≤d.size)(hab:a≤b)(hs:d.size<4611686018427387904)(hN:d.size<N):
 fO.S N (d.toList,d.size,(a:Int),(b:Int))=some (insertionSort ltInt d a b).toList:=by
 show(iL d.toList d.size (a:Int) (b:Int)).run N=_;simp only[iL,G.run,aI,if_true,vZ,cQ,iq];have w1:Go.IntKind.wrap .i64 ((a:Int)+1)=((a+1:Nat):Int):=by rw[wrap_i64 (by omega) (by omega)];omega
 rw[w1];refine kP (I:=fun s=>∃(i:Nat) (e:Array Int),s=((i:Int),e.toList)∧a<i∧i≤b+1∧e.size=d.size∧insOuter ltInt a b i e=insertionSort ltInt d a b) (m:=fun s=>b+1 - s.1.toNat) (F:=fun _=>(insertionSort ltInt d a b).toList)
  ⟨a+1,d,rfl,by omega,by omega,rfl,rfl⟩ (by omega) (fun s hs'=>?_) rfl
 obtain⟨i,e,rfl,h1,h2,h3,h4⟩:=hs';by_cases hib:i<b
 ·have c1:decide ((i:Int)<(b:Int))=true:=by simp;omega
  simp only[c1,if_true];right;have hO:insOuter ltInt a b i e=insOuter ltInt a b (i+1) (insInner ltInt a i e):=by rw[insOuter,if_pos hib]
  refine⟨(((i+1:Nat):Int),(insInner ltInt a i e).toList),?_,⟨i+1,insInner ltInt a i e,rfl,by omega,by omega,by rw[DN];exact h3,by rw[← hO];exact h4⟩,rfl,by simp only;omega⟩
  have w2:Go.IntKind.wrap .i64 ((i:Int)+1)=((i+1:Nat):Int):=by rw[wrap_i64 (by omega) (by omega)];omega
  refine kP (I:=fun s=>∃(j:Nat) (e':Array Int),s=((j:Int),e'.toList)∧a≤j∧j≤i∧e'.size=d.size∧insInner ltInt a j e'=insInner ltInt a i e) (m:=fun s=>s.1.toNat) (F:=fun _=>(insInner ltInt a i e).toList)
   ⟨i,e,rfl,by omega,by omega,h3,rfl⟩ (by simp only;omega) (fun s hs'=>?_) (by rw[w2])
  obtain⟨j,e',rfl,g1,g2,g3,g4⟩:=hs';by_cases hja:a<j
  ·have c2:decide ((j:Int)>(a:Int))=true:=by simp;omega
   obtain⟨j',rfl⟩:∃j',j=j'+1:=⟨j - 1,by omega⟩
   have w3:Go.IntKind.wrap .i64 (((j'+1:Nat):Int) - 1)=(j':Int):=by rw[wrap_i64 (by omega) (by omega)];omega
   have r1:(0:Int)≤((j'+1:Nat):Int)∧((j'+1:Nat):Int)<(d.size:Int):=by omega
   have r2:(0:Int)≤(j':Int)∧(j':Int)<(d.size:Int):=by omega
   simp only[c2,if_true,w3,Int.toNat_natCast,if_pos r1,if_pos r2,bN e' (show j'+1<e'.size by omega),bN e' (show j'<e'.size by omega),Option.bind_some,vZ]
   have hI:insInner ltInt a (j'+1) e'=if decide (j'+1>a)&&ltInt e'[j'+1]! e'[j']! then insInner ltInt a j' (swp e' (j'+1) j')else e':=rfl
   cases hl:ltInt e'[j'+1]! e'[j']! with
   |true=>
    right;refine⟨((j':Int),(swp e' (j'+1) j').toList),?_,⟨j',swp e' (j'+1) j',rfl,by omega,by omega,by rw[eE];exact g3,?_⟩,rfl,by simp only[Int.toNat_natCast];omega⟩
    ·simp only[if_true,fe,bN e' (show j'+1<e'.size by omega),bN e' (show j'<e'.size by omega),Option.bind_some]
     rw[← nv];rw[jD,bN _ (by simp;omega)];rfl
    ·rw[← g4,hI,hl];simp;omega
   |false=>
    left;simp only[Bool.false_eq_true,if_false];rw[hl,Bool.and_false,if_neg (by simp)]at hI
    rw[← g4,hI]
  ·have c2:decide ((j:Int)>(a:Int))=false:=by simp;omega
   left;simp only[c2,Bool.false_eq_true,if_false];have:insInner ltInt a j e'=e':=by
    cases j with
    |zero=>rfl
    |succ j'=>rw[insInner,if_neg (by simp;omega)]
   rw[← g4,this]
 ·have c1:decide ((i:Int)<(b:Int))=false:=by simp;omega
  left;simp only[c1,Bool.false_eq_true,if_false];have:insOuter ltInt a b i e=e:=by rw[insOuter,if_neg hib]
  rw[← h4,this]
theorem WO{n:Nat}(h:n<9000000000000000000):Go.IntKind.wrap .i64 (n:Int)=(n:Int):=wrap_i64 (by omega) (by omega)
theorem bG{x:Int}{n:Nat}(h:x=(n:Int))(hn:n<9000000000000000000):Go.IntKind.wrap .i64 x=(n:Int):=by rw[h];exact WO hn
theorem dZ{n:Nat}{m:Nat}(h:n<m):(0:Int)≤(n:Int)∧(n:Int)<(m:Int):=by omega
theorem Na(N:Nat)(d:Array Int)(a b:Nat)(hb:b≤d.size)(hab:a<b)(hs:d.size<4611686018427387904)(hN:d.size<N):
 dW.S N (d.toList,d.size,(a:Int),(b:Int))=some (reverseRange d a b).toList:=by
 show(iR d.toList d.size (a:Int) (b:Int)).run N=_;simp only[iR,G.run,aI,if_true,cQ,iq,fe];rw[bG (x:=(b:Int) - 1) (n:=b - 1) (by omega) (by omega)]
 refine kP (I:=fun s=>∃(i j:Nat) (e:Array Int),s=((i:Int),(j:Int),e.toList)∧a≤i∧j<b∧i≤j+1∧e.size=d.size∧reverseLoop i j e=reverseRange d a b) (m:=fun s=>s.2.1.toNat+1 - s.1.toNat) (F:=fun _=>(reverseRange d a b).toList)
  ⟨a,b - 1,d,rfl,by omega,by omega,by omega,rfl,rfl⟩ (by simp only[Int.toNat_natCast];omega) (fun s hs'=>?_) rfl
 obtain⟨i,j,e,rfl,h1,h2,h3,h4,h5⟩:=hs';by_cases hij:i<j
 ·right;have hO:reverseLoop i j e=reverseLoop (i+1) (j - 1) (swp e i j):=by rw[reverseLoop,if_pos hij]
  refine⟨(((i+1:Nat):Int),((j - 1:Nat):Int),(swp e i j).toList),?_,⟨i+1,j - 1,swp e i j,rfl,by omega,by omega,by omega,by rw[eE];exact h4,by rw[← hO];exact h5⟩,rfl,by simp only[Int.toNat_natCast];omega⟩
  rw[if_pos (by simp;omega)]
  simp only[if_pos (dZ (show i<d.size by omega)),if_pos (dZ (show j<d.size by omega)),Int.toNat_natCast,bN e (show i<e.size by omega),bN e (show j<e.size by omega),Option.bind_some,bG (x:=(i:Int)+1) (n:=i+1) (by omega) (by omega),bG (x:=(j:Int) - 1) (n:=j - 1) (by omega) (by omega)]
  rw[← nv,jD,bN _ (by simp;omega)]
  rfl
 ·left;have hO:reverseLoop i j e=e:=by rw[reverseLoop,if_neg hij]
  rw[if_neg (by simp;omega),← h5,hO]
theorem BX(hi first root:Nat)(d:Array Int):siftDown ltInt hi first root d=if 2*root+1≥hi then d else
 if 2*root+1+1<hi&&ltInt d[first+(2*root+1)]! d[first+(2*root+1)+1]! then
  if !ltInt d[first+root]! d[first+(2*root+2)]! then d else
   if 2*root+2<hi then siftDown ltInt hi first (2*root+2) (swp d (first+root) (first+(2*root+2)))else d
 else
  if !ltInt d[first+root]! d[first+(2*root+1)]! then d else siftDown ltInt hi first (2*root+1) (swp d (first+root) (first+(2*root+1))):=by
 rw[siftDown];rfl
theorem IZ{σ τ:Type}{f:σ→Option (σ⊕τ)}(I:σ→Prop)(m:σ→Nat)(Q:τ→Prop)(step:∀s,I s→(∃t,f s=some (.inr t)∧Q t)∨∃s',f s=some (.inl s')∧I s'∧m s'<m s):
 ∀(N:Nat) (s:σ),I s→m s<N→∃t,bZ f N s=some t∧Q t
 | 0,s,_,h=>absurd h (Nat.not_lt_zero _)
 |N+1,s,hi,h=>by
  rcases step s hi with⟨t,e,hq⟩ |⟨s',e,hi',hm⟩
  ·exact⟨t,by simp only[bZ,e],hq⟩
  ·obtain⟨t,h1,h2⟩:=IZ I m Q step N s' hi' (by omega)
   exact⟨t,by simp only[bZ,e,h1],h2⟩
theorem qd{σ τ β:Type}{f:σ→Option (σ⊕τ)}{k:τ→Option β}{N:Nat}{s:σ}{r:Option β}(I:σ→Prop)(m:σ→Nat)(Q:τ→Prop)(hI:I s)(hm:m s<N)
 (step:∀s,I s→(∃t,f s=some (.inr t)∧Q t)∨∃s',f s=some (.inl s')∧I s'∧m s'<m s) (hk:∀t,Q t→k t=r):(bZ f N s).bind k=r:=by
 obtain⟨t,h1,h2⟩:=IZ I m Q step N s hI hm;rw[h1];exact hk t h2
theorem size_siftDown(hi first:Nat):∀(n root:Nat) (d:Array Int),hi - root≤n→(siftDown ltInt hi first root d).size=d.size
 | 0,root,d,h=>by
  rw[BX,if_pos (by omega)]
 |n+1,root,d,h=>by
  rw[BX]
  repeat' split
  all_goals first |rfl | (rw[size_siftDown hi first n _ _ (by omega),eE])
theorem S9(N:Nat)(d:Array Int)(lo hi first:Nat)(hlo:lo≤hi)(hb:first+hi≤d.size)(hs:d.size<1000000000000)(hN:d.size+1<N):
 fC.S N (d.toList,d.size,(lo:Int),(hi:Int),(first:Int))=some (siftDown ltInt hi first lo d).toList:=by
 show(jV d.toList d.size (lo:Int) (hi:Int) (first:Int)).run N=_
 simp only[jV,G.run,aI,if_true,cQ,iq,fe,vZ];refine qd (I:=fun s=>∃(root:Nat) (e:Array Int),s=((root:Int),e.toList)∧root≤hi∧e.size=d.size∧siftDown ltInt hi first root e=siftDown ltInt hi first lo d) (m:=fun s=>hi - s.1.toNat) (Q:=fun t=>t=.inl (siftDown ltInt hi first lo d).toList∨t=.inr (siftDown ltInt hi first lo d).toList)
  ⟨lo,d,rfl,by omega,rfl,rfl⟩ (by simp only[Int.toNat_natCast];omega) (fun s hs'=>?_) (fun t ht=>by rcases ht with rfl |rfl<;>rfl)
 obtain⟨r,e,rfl,h1,h2,h3⟩:=hs';have w1:Go.IntKind.wrap .i64 ((2:Int)*(r:Int))=((2*r:Nat):Int):=bG (by omega) (by omega)
 have w2:Go.IntKind.wrap .i64 (((2*r:Nat):Int)+1)=((2*r+1:Nat):Int):=bG (by omega) (by omega)
 have w3:Go.IntKind.wrap .i64 (((2*r+1:Nat):Int)+1)=((2*r+2:Nat):Int):=bG (by omega) (by omega)
 have w4:Go.IntKind.wrap .i64 ((first:Int)+((2*r+1:Nat):Int))=((first+(2*r+1):Nat):Int):=bG (by omega) (by omega)
 have w5:Go.IntKind.wrap .i64 (((first+(2*r+1):Nat):Int)+1)=((first+(2*r+2):Nat):Int):=bG (by omega) (by omega)
 have w6:Go.IntKind.wrap .i64 ((first:Int)+(r:Int))=((first+r:Nat):Int):=bG (by omega) (by omega)
 have w7:Go.IntKind.wrap .i64 ((first:Int)+((2*r+2:Nat):Int))=((first+(2*r+2):Nat):Int):=bG (by omega) (by omega)
 simp only[w1,w2,w3,w4,w5,w6,w7];rw[BX]at h3;by_cases c1:2*r+1≥hi
 ·rw[if_pos c1]at h3;left;exact⟨.inl e.toList,by rw[if_pos (by simp;omega)],.inl (by rw[h3])⟩
 ·rw[if_neg c1]at h3;rw[if_neg (by simp;omega)]
  have i1:=dZ (show first+(2*r+1)<d.size by omega)
  have i0:=dZ (show first+r<d.size by omega)
  have g1:=bN e (show first+(2*r+1)<e.size by omega)
  have g0:=bN e (show first+r<e.size by omega)
  by_cases c2:2*r+1+1<hi
  ·rw[if_pos (by simp;omega)]
   have i2:=dZ (show first+(2*r+2)<d.size by omega)
   have g2:=bN e (show first+(2*r+2)<e.size by omega)
   simp only[if_pos i1,if_pos i2,if_pos i0,Int.toNat_natCast,g1,g2,g0,Option.bind_some];rw[show first+(2*r+1)+1=first+(2*r+2)by omega]at h3
   cases hl1:ltInt e[first+(2*r+1)]! e[first+(2*r+2)]! with
   |true=>
    rw[hl1,if_pos (by simp;omega)]at h3
    simp only[if_true];cases hl2:ltInt e[first+r]! e[first+(2*r+2)]! with
    |false=>
     rw[hl2]at h3;left;exact⟨.inr e.toList,rfl,.inr (by rw[← h3];rfl)⟩
    |true=>
     rw[hl2,if_neg (by simp),if_pos (by omega)]at h3
     right;refine⟨(((2*r+2:Nat):Int),(swp e (first+r) (first+(2*r+2))).toList),?_,⟨2*r+2,swp e (first+r) (first+(2*r+2)),rfl,by omega,by rw[eE];exact h2,h3⟩,by simp only[Int.toNat_natCast];omega⟩
     simp only[Bool.not_true,Bool.false_eq_true,if_false];rw[← nv,jD,bN _ (by simp;omega)]
     rfl
   |false=>
    rw[hl1,if_neg (by simp)]at h3
    simp only[Bool.false_eq_true,if_false];cases hl2:ltInt e[first+r]! e[first+(2*r+1)]! with
    |false=>
     rw[hl2]at h3;left;exact⟨.inr e.toList,rfl,.inr (by rw[← h3];rfl)⟩
    |true=>
     rw[hl2,if_neg (by simp)]at h3
     right;refine⟨(((2*r+1:Nat):Int),(swp e (first+r) (first+(2*r+1))).toList),?_,⟨2*r+1,swp e (first+r) (first+(2*r+1)),rfl,by omega,by rw[eE];exact h2,h3⟩,by simp only[Int.toNat_natCast];omega⟩
     simp only[Bool.not_true,Bool.false_eq_true,if_false];rw[← nv,jD,bN _ (by simp;omega)]
     rfl
  ·rw[if_neg (by simp;omega)]
   rw[if_neg (by simp;omega)]at h3
   simp only[if_pos i1,if_pos i0,Int.toNat_natCast,g1,g0,Option.bind_some];cases hl2:ltInt e[first+r]! e[first+(2*r+1)]! with
   |false=>
    rw[hl2]at h3;left;exact⟨.inr e.toList,rfl,.inr (by rw[← h3];rfl)⟩
   |true=>
    rw[hl2,if_neg (by simp)]at h3
    right;refine⟨(((2*r+1:Nat):Int),(swp e (first+r) (first+(2*r+1))).toList),?_,⟨2*r+1,swp e (first+r) (first+(2*r+1)),rfl,by omega,by rw[eE];exact h2,h3⟩,by simp only[Int.toNat_natCast];omega⟩
    simp only[Bool.not_true,Bool.false_eq_true,if_false];rw[← nv,jD,bN _ (by simp;omega)]
    rfl
theorem Rj(N:Nat)(e:Array Int)(n lo hi first:Nat)(he:e.size=n)(hlo:lo≤hi)(hb:first+hi≤n)(hs:n<1000000000000)(hN:n+1<N){β:Type}(k:fC.sh.El→Option β):
 (fC.S N (e.toList,n,(lo:Int),(hi:Int),(first:Int))).bind k=k (siftDown ltInt hi first lo e).toList:=by
 subst he;exact(congrArg (fun o=>Option.bind o k) (S9 N e lo hi first hlo hb hs hN)).trans rfl
theorem Ta(N:Nat)(d:Array Int)(a b:Nat)(hb:b≤d.size)(hab:a≤b)(hs:d.size<1000000000000)(hN:d.size+2<N):
 gU.S N (d.toList,d.size,(a:Int),(b:Int))=some (heapSort ltInt d a b).toList:=by
 show(jW d.toList d.size (a:Int) (b:Int)).run N=_;simp only[jW,G.run,aI,if_true,cQ,iq,fe,bG (x:=(b:Int) - (a:Int)) (n:=b - a) (by omega) (by omega)]
 have w0:Go.IntKind.wrap .i64 (Int.tdiv (Go.IntKind.wrap .i64 (((b - a:Nat):Int) - 1)) 2)=(((b - a - 1) / 2+1:Nat):Int) - 1:=by
  by_cases h:b - a=0
  ·rw[h];decide
  ·rw[bG (x:=((b - a:Nat):Int) - 1) (n:=b - a - 1) (by omega) (by omega)]
   rw[show Int.tdiv ((b - a - 1:Nat):Int) 2=(((b - a - 1) / 2:Nat):Int)by rw[Int.tdiv_eq_ediv_of_nonneg (by omega)];omega]
   rw[WO (by omega)];omega
 rw[w0];refine kP (I:=fun s=>∃(k:Nat) (e:Array Int),s=((k:Int) - 1,e.toList)∧k≤(b - a - 1) / 2+1∧e.size=d.size∧heapBuild ltInt (b - a) a k e=heapBuild ltInt (b - a) a ((b - a - 1) / 2+1) d) (m:=fun s=>(s.1+1).toNat) (F:=fun _=>(heapBuild ltInt (b - a) a ((b - a - 1) / 2+1) d).toList)
  ⟨_,d,rfl,Nat.le_refl _,rfl,rfl⟩ (by simp only;omega) (fun s hs'=>?_) ?_
 ·obtain⟨k,e,rfl,h1,h2,h3⟩:=hs';cases k with
  |zero=>
   left;rw[if_neg (by simp)]
   show some (Sum.inr e.toList)=_;rw[← h3];rfl
  |succ k=>
   right;have hsz:(siftDown ltInt (b - a) a k e).size=d.size:=by rw[size_siftDown _ _ _ _ _ (Nat.le_refl _)];exact h2
   refine⟨((k:Int) - 1,(siftDown ltInt (b - a) a k e).toList),?_,⟨k,_,rfl,by omega,hsz,h3⟩,rfl,by simp only;omega⟩
   rw[if_pos (by simp)]
   rw[show(((k+1:Nat):Int) - 1)=(k:Int)by omega]
   rw[Rj N e d.size k (b - a) a h2 (by omega) (by omega) hs (by omega)]
   rw[show Go.IntKind.wrap .i64 ((k:Int) - 1)=(k:Int) - 1 from wrap_i64 (by omega) (by omega)]
 ·have hB:(heapBuild ltInt (b - a) a ((b - a - 1) / 2+1) d).size=d.size:=by
   have:∀(k:Nat) (e:Array Int),(heapBuild ltInt (b - a) a k e).size=e.size:=by
    intro k;induction k with
    |zero=>intro e;rfl
    |succ k ih=>intro e;rw[heapBuild,ih,size_siftDown _ _ _ _ _ (Nat.le_refl _)]
   exact this _ _
  rw[show Go.IntKind.wrap .i64 (((b - a:Nat):Int) - 1)=((b - a:Nat):Int) - 1 from wrap_i64 (by omega) (by omega)]
  refine kP (I:=fun s=>∃(k:Nat) (e:Array Int),s=((k:Int) - 1,e.toList)∧k≤b - a∧e.size=d.size∧heapPop ltInt a k e=heapSort ltInt d a b) (m:=fun s=>(s.1+1).toNat) (F:=fun _=>(heapSort ltInt d a b).toList)
   ⟨_,_,rfl,Nat.le_refl _,hB,rfl⟩ (by simp only;omega) (fun s hs'=>?_) rfl
  obtain⟨k,e,rfl,h1,h2,h3⟩:=hs';cases k with
  |zero=>
   left;rw[if_neg (by simp)]
   show some (Sum.inr e.toList)=_;rw[← h3];rfl
  |succ k=>
   right;have hsz:(siftDown ltInt k a 0 (swp e a (a+k))).size=d.size:=by rw[size_siftDown _ _ _ _ _ (Nat.le_refl _),eE];exact h2
   refine⟨((k:Int) - 1,(siftDown ltInt k a 0 (swp e a (a+k))).toList),?_,⟨k,_,rfl,by omega,hsz,h3⟩,rfl,by simp only;omega⟩
   rw[if_pos (by simp)]
   rw[show(((k+1:Nat):Int) - 1)=(k:Int)by omega]
   simp only[bG (x:=(a:Int)+(k:Int)) (n:=a+k) (by omega) (by omega),if_pos (dZ (show a+k<d.size by omega)),if_pos (dZ (show a<d.size by omega)),Int.toNat_natCast,bN e (show a<e.size by omega),bN e (show a+k<e.size by omega),Option.bind_some]
   rw[nv,jD,bN _ (by simp;omega)]
   simp only[Option.bind_some];refine(Rj N (swp e a (a+k)) d.size 0 k a (by rw[eE];exact h2) (by omega) (by omega) hs (by omega) _).trans ?_
   rw[show Go.IntKind.wrap .i64 ((k:Int) - 1)=(k:Int) - 1 from wrap_i64 (by omega) (by omega)]
theorem scanUp_ge(p:Int→Bool)(d:Array Int)(j:Nat):∀(n i:Nat),j+1 - i≤n→i≤scanUp p d j i
 | 0,i,h=>by
  rw[scanUp,if_neg (by simp;omega)];exact Nat.le_refl _
 |n+1,i,h=>by
  rw[scanUp];split
  ·exact Nat.le_trans (Nat.le_succ _) (scanUp_ge p d j n (i+1) (by omega))
  ·exact Nat.le_refl _
theorem JN(p:Int→Bool)(d:Array Int)(j:Nat):∀(n i:Nat),j+1 - i≤n→i≤j+1→scanUp p d j i≤j+1
 | 0,i,h,hi=>by
  rw[scanUp,if_neg (by simp;omega)];exact hi
 |n+1,i,h,hi=>by
  rw[scanUp];split
  ·rename_i hc;simp only[Bool.and_eq_true,decide_eq_true_eq]at hc;exact JN p d j n (i+1) (by omega) (by omega)
  ·exact hi
theorem scanDown_le(p:Int→Bool)(d:Array Int)(i:Nat):∀j:Nat,scanDown p d i j≤j
 | 0=>Nat.le_refl _
 |j+1=>by
  rw[scanDown];split
  ·exact Nat.le_trans (scanDown_le p d i j) (Nat.le_succ _)
  ·exact Nat.le_refl _
theorem F8(p:Int→Bool)(d:Array Int)(i:Nat):∀j:Nat,i≤j+1→i≤scanDown p d i j+1
 | 0,h=>h
 |j+1,h=>by
  rw[scanDown];split
  ·rename_i hc;simp only[Bool.and_eq_true,decide_eq_true_eq]at hc;exact F8 p d i j hc.1
  ·exact h
theorem uu{β:Type}{f:Int→Option (Int⊕Int)}{k:Int→Option β}{N:Nat}{r:Option β}(p:Int→Bool)(e:Array Int)(j i0:Nat)(hN:j+3<N)
 (hf:∀i:Nat,i0≤i→i≤j→f (i:Int)=if p e[i]! =true then some (.inl ((i+1:Nat):Int))else some (.inr (i:Int))) (hx:∀i:Nat,j<i→f (i:Int)=some (.inr (i:Int)))
 (hk:k ((scanUp p e j i0:Nat):Int)=r):(bZ f N (i0:Int)).bind k=r:=by
 refine kP (I:=fun s=>∃i:Nat,s=(i:Int)∧i0≤i∧scanUp p e j i=scanUp p e j i0) (m:=fun s=>j+2 - s.toNat) (F:=fun _=>((scanUp p e j i0:Nat):Int)) ⟨i0,rfl,Nat.le_refl _,rfl⟩ (by simp only[Int.toNat_natCast];omega) (fun s hs=>?_) hk
 obtain⟨i,rfl,h1,h3⟩:=hs;by_cases hij:i≤j
 ·rw[hf i h1 hij];rw[scanUp]at h3;cases hp:p e[i]! with
  |true=>
   rw[hp,if_pos (by simp;omega)]at h3
   right;exact⟨((i+1:Nat):Int),by simp,⟨i+1,rfl,by omega,h3⟩,rfl,by simp only[Int.toNat_natCast];omega⟩
  |false=>
   rw[hp,if_neg (by simp)]at h3
   left;rw[if_neg (by simp),h3]
 ·rw[scanUp,if_neg (by simp;omega)]at h3
  left;rw[hx i (by omega),h3]
theorem qW{β:Type}{f:Int→Option (Int⊕Int)}{k:Int→Option β}{N:Nat}{r:Option β}(p:Int→Bool)(e:Array Int)(i j0:Nat)(hi:1≤i)(hN:j0+2<N)
 (hf:∀j:Nat,i≤j→j≤j0→f (j:Int)=if p e[j]! =true then some (.inl ((j - 1:Nat):Int))else some (.inr (j:Int))) (hx:∀j:Nat,j<i→f (j:Int)=some (.inr (j:Int)))
 (hk:k ((scanDown p e i j0:Nat):Int)=r):(bZ f N (j0:Int)).bind k=r:=by
 refine kP (I:=fun s=>∃j:Nat,s=(j:Int)∧j≤j0∧scanDown p e i j=scanDown p e i j0) (m:=fun s=>s.toNat+1) (F:=fun _=>((scanDown p e i j0:Nat):Int)) ⟨j0,rfl,Nat.le_refl _,rfl⟩ (by simp only[Int.toNat_natCast];omega) (fun s hs=>?_) hk
 obtain⟨j,rfl,h2,h3⟩:=hs;by_cases hc:i≤j
 ·rw[hf j hc h2];obtain⟨j',rfl⟩:∃j',j=j'+1:=⟨j - 1,by omega⟩
  rw[scanDown]at h3;cases hp:p e[j'+1]! with
  |true=>
   rw[hp,if_pos (by simp;omega)]at h3
   right;exact⟨(j':Int),by simp,⟨j',rfl,by omega,h3⟩,rfl,by simp only[Int.toNat_natCast];omega⟩
  |false=>
   rw[hp,if_neg (by simp)]at h3
   left;rw[if_neg (by simp),h3]
 ·left;rw[hx j (by omega),← h3]
  cases j with
  |zero=>rfl
  |succ j'=>rw[scanDown,if_neg (by simp;omega)]
theorem partLoop_eq(a i j:Nat)(d:Array Int):partLoop ltInt a i j d=
 if scanUp (fun x=>ltInt x d[a]!) d j i>scanDown (fun x=> !ltInt x d[a]!) d (scanUp (fun x=>ltInt x d[a]!) d j i) j then(scanDown (fun x=> !ltInt x d[a]!) d (scanUp (fun x=>ltInt x d[a]!) d j i) j,d)
 else partLoop ltInt a (scanUp (fun x=>ltInt x d[a]!) d j i+1) (scanDown (fun x=> !ltInt x d[a]!) d (scanUp (fun x=>ltInt x d[a]!) d j i) j - 1)
  (swp d (scanUp (fun x=>ltInt x d[a]!) d j i) (scanDown (fun x=> !ltInt x d[a]!) d (scanUp (fun x=>ltInt x d[a]!) d j i) j)):=by
 rw[partLoop];have g1:=scanUp_ge (fun x=>ltInt x d[a]!) d j (j+1 - i) i (Nat.le_refl _)
 have g2:=scanDown_le (fun x=> !ltInt x d[a]!) d (scanUp (fun x=>ltInt x d[a]!) d j i) j
 split
 ·rfl
 ·rw[dif_pos (by omega)]
theorem Kl(N:Nat)(d:Array Int)(a b pivot:Nat)(hb:b≤d.size)(hap:a≤pivot)(hpb:pivot<b)(hs:d.size<1000000000000)(hN:d.size+3<N):
 av.S N (d.toList,d.size,(a:Int),(b:Int),(pivot:Int))=some (((partition ltInt d a b pivot).1:Int),(partition ltInt d a b pivot).2.1,(partition ltInt d a b pivot).2.2.toList):=by
 show(jK d.toList d.size (a:Int) (b:Int) (pivot:Int)).run N=_;simp only[jK,G.run,aI,if_true,cQ,iq,fe,vZ];simp only[if_pos (dZ (show pivot<d.size by omega)),if_pos (dZ (show a<d.size by omega)),Int.toNat_natCast,bN d (show pivot<d.size by omega),bN d (show a<d.size by omega),Option.bind_some,bG (x:=(a:Int)+1) (n:=a+1) (by omega) (by omega),bG (x:=(b:Int) - 1) (n:=b - 1) (by omega) (by omega)]
 rw[nv,jD,bN _ (by simp;omega)]
 simp only[Option.bind_some];have hsz:(swp d a pivot).size=d.size:=eE _ _ _;have hP:partition ltInt d a b pivot=(let d:=swp d a pivot
  let i:=scanUp (fun x=>ltInt x d[a]!) d (b - 1) (a+1)
  let j:=scanDown (fun x=> !ltInt x d[a]!) d i (b - 1)
  if i>j then(j,true,swp d j a)else
   let r:=partLoop ltInt a (i+1) (j - 1) (swp d i j)
   (r.1,false,swp r.2 r.1 a)):=rfl
 rw[hP];generalize swp d a pivot=e at*;generalize d.size=n at*;subst hsz;simp only
 have ga:=bN e (show a<e.size by omega)
 have ia:=dZ (show a<e.size by omega)
 have step1:∀i:Nat,a+1≤i→i≤b - 1→i<e.size:=fun i _ _=>by omega
 refine uu (fun x=>ltInt x e[a]!) e (b - 1) (a+1) (by omega) (fun i h1 h2=>?_) (fun i h1=>?_) ?_
 ·rw[if_pos (by simp;omega),if_pos (dZ (show i<e.size by omega)),Int.toNat_natCast,bN e (show i<e.size by omega)]
  simp only[Option.bind_some,if_pos ia,ga,bG (x:=(i:Int)+1) (n:=i+1) (by omega) (by omega)]
  try rfl
 ·rw[if_neg (by simp;omega)]
  try rfl
 have hu1:=scanUp_ge (fun x=>ltInt x e[a]!) e (b - 1) _ (a+1) (Nat.le_refl _)
 have hu2:=JN (fun x=>ltInt x e[a]!) e (b - 1) _ (a+1) (Nat.le_refl _) (by omega)
 generalize scanUp (fun x=>ltInt x e[a]!) e (b - 1) (a+1)=i2 at*
 refine qW (fun x=> !ltInt x e[a]!) e i2 (b - 1) (by omega) (by omega) (fun j h1 h2=>?_) (fun j h1=>?_) ?_
 ·rw[if_pos (by simp;omega),if_pos (dZ (show j<e.size by omega)),Int.toNat_natCast,bN e (show j<e.size by omega)]
  simp only[Option.bind_some,if_pos ia,ga,bG (x:=(j:Int) - 1) (n:=j - 1) (by omega) (by omega)]
  try rfl
 ·rw[if_neg (by simp;omega)]
  try rfl
 have hd1:=scanDown_le (fun x=> !ltInt x e[a]!) e i2 (b - 1)
 have hd2:=F8 (fun x=> !ltInt x e[a]!) e i2 (b - 1) (by omega)
 generalize scanDown (fun x=> !ltInt x e[a]!) e i2 (b - 1)=j2 at*
 by_cases hij:i2>j2
 ·rw[if_pos (by simp;omega),if_pos hij]
  simp only[cQ,iq,fe,ga,Option.bind_some,if_pos (dZ (show j2<e.size by omega)),bN e (show j2<e.size by omega),Int.toNat_natCast,if_pos ia]
  rw[nv,jD,bN _ (by simp;omega)]
  rfl
 ·rw[if_neg (by simp;omega),if_neg hij]
  simp only[cQ,iq,fe,Option.bind_some,if_pos (dZ (show i2<e.size by omega)),bN e (show i2<e.size by omega),Int.toNat_natCast,if_pos (dZ (show j2<e.size by omega)),bN e (show j2<e.size by omega)]
  rw[nv,jD,bN _ (by simp;omega)]
  simp only[Option.bind_some,bG (x:=(i2:Int)+1) (n:=i2+1) (by omega) (by omega),bG (x:=(j2:Int) - 1) (n:=j2 - 1) (by omega) (by omega)]
  have hs2:(swp e i2 j2).size=e.size:=eE _ _ _;generalize swp e i2 j2=e2 at*;refine qd (I:=fun s=>∃(i j:Nat) (q:Array Int),s=((i:Int),(j:Int),q.toList)∧a+1≤i∧i≤b+1∧j≤b - 1∧q.size=e.size∧partLoop ltInt a i j q=partLoop ltInt a (i2+1) (j2 - 1) e2) (m:=fun s=>(s.2.1+1 - s.1).toNat)
   (Q:=fun t=>t=(((partLoop ltInt a (i2+1) (j2 - 1) e2).1:Int),(partLoop ltInt a (i2+1) (j2 - 1) e2).2.toList)∧(partLoop ltInt a (i2+1) (j2 - 1) e2).1<b∧(partLoop ltInt a (i2+1) (j2 - 1) e2).2.size=e.size)
   ⟨i2+1,j2 - 1,e2,rfl,by omega,by omega,by omega,hs2,rfl⟩ (by simp only;omega) (fun s hs'=>?_) (fun t ht=>?_)
  ·obtain⟨i,j,q,rfl,h1,h2,h3,h4,h5⟩:=hs';have gq:=bN q (show a<q.size by omega)
   have hE:=partLoop_eq a i j q;have hu1:=scanUp_ge (fun x=>ltInt x q[a]!) q j _ i (Nat.le_refl _)
   generalize hu:scanUp (fun x=>ltInt x q[a]!) q j i=u at*
   have hd1:=scanDown_le (fun x=> !ltInt x q[a]!) q u j
   generalize hv:scanDown (fun x=> !ltInt x q[a]!) q u j=v at*
   by_cases huv:u>v
   ·rw[if_pos huv]at hE;left;refine⟨((v:Int),q.toList),?_,by rw[← h5,hE],by rw[← h5,hE];show v<b;omega,by rw[← h5,hE];exact h4⟩
    refine uu (fun x=>ltInt x q[a]!) q j i (by omega) (fun i' g1 g2=>?_) (fun i' g1=>?_) ?_
    ·rw[if_pos (by simp;omega),if_pos (dZ (show i'<e.size by omega)),Int.toNat_natCast,bN q (show i'<q.size by omega)]
     simp only[Option.bind_some,gq,bG (x:=(i':Int)+1) (n:=i'+1) (by omega) (by omega)]
     try rfl
    ·rw[if_neg (by simp;omega)]
     try rfl
    rw[hu];refine qW (fun x=> !ltInt x q[a]!) q u j (by omega) (by omega) (fun j' g1 g2=>?_) (fun j' g1=>?_) ?_
    ·rw[if_pos (by simp;omega),if_pos (dZ (show j'<e.size by omega)),Int.toNat_natCast,bN q (show j'<q.size by omega)]
     simp only[Option.bind_some,gq,bG (x:=(j':Int) - 1) (n:=j' - 1) (by omega) (by omega)]
     try rfl
    ·rw[if_neg (by simp;omega)]
     try rfl
    rw[hv];rw[if_pos (by simp;omega)]
   ·rw[if_neg huv]at hE;right;refine⟨(((u+1:Nat):Int),((v - 1:Nat):Int),(swp q u v).toList),?_,⟨u+1,v - 1,swp q u v,rfl,by omega,by omega,by omega,by rw[eE];exact h4,by rw[← hE];exact h5⟩,by simp only;omega⟩
    refine uu (fun x=>ltInt x q[a]!) q j i (by omega) (fun i' g1 g2=>?_) (fun i' g1=>?_) ?_
    ·rw[if_pos (by simp;omega),if_pos (dZ (show i'<e.size by omega)),Int.toNat_natCast,bN q (show i'<q.size by omega)]
     simp only[Option.bind_some,gq,bG (x:=(i':Int)+1) (n:=i'+1) (by omega) (by omega)]
     try rfl
    ·rw[if_neg (by simp;omega)]
     try rfl
    rw[hu];refine qW (fun x=> !ltInt x q[a]!) q u j (by omega) (by omega) (fun j' g1 g2=>?_) (fun j' g1=>?_) ?_
    ·rw[if_pos (by simp;omega),if_pos (dZ (show j'<e.size by omega)),Int.toNat_natCast,bN q (show j'<q.size by omega)]
     simp only[Option.bind_some,gq,bG (x:=(j':Int) - 1) (n:=j' - 1) (by omega) (by omega)]
     try rfl
    ·rw[if_neg (by simp;omega)]
     try rfl
    rw[hv];rw[if_neg (by simp;omega)]
    simp only[cQ,iq,fe,Option.bind_some,if_pos (dZ (show u<e.size by omega)),bN q (show u<q.size by omega),Int.toNat_natCast,if_pos (dZ (show v<e.size by omega)),bN q (show v<q.size by omega)]
    rw[nv,jD,bN _ (by simp;omega)]
    simp only[Option.bind_some,bG (x:=(u:Int)+1) (n:=u+1) (by omega) (by omega),bG (x:=(v:Int) - 1) (n:=v - 1) (by omega) (by omega)]
  ·obtain⟨rfl,h1,h2⟩:=ht;generalize partLoop ltInt a (i2+1) (j2 - 1) e2=R at*;simp only[bN R.2 (show a<R.2.size by omega),bN R.2 (show R.1<R.2.size by omega),if_pos (dZ (show R.1<e.size by omega)),Int.toNat_natCast,Option.bind_some]
   rw[nv,jD,bN _ (by simp;omega)]
   rfl
theorem partEqLoop_eq(a i j:Nat)(d:Array Int):partEqLoop ltInt a i j d=
 if scanUp (fun x=> !ltInt d[a]! x) d j i>scanDown (fun x=>ltInt d[a]! x) d (scanUp (fun x=> !ltInt d[a]! x) d j i) j then(scanUp (fun x=> !ltInt d[a]! x) d j i,d)
 else partEqLoop ltInt a (scanUp (fun x=> !ltInt d[a]! x) d j i+1) (scanDown (fun x=>ltInt d[a]! x) d (scanUp (fun x=> !ltInt d[a]! x) d j i) j - 1)
  (swp d (scanUp (fun x=> !ltInt d[a]! x) d j i) (scanDown (fun x=>ltInt d[a]! x) d (scanUp (fun x=> !ltInt d[a]! x) d j i) j)):=by
 rw[partEqLoop];have g1:=scanUp_ge (fun x=> !ltInt d[a]! x) d j (j+1 - i) i (Nat.le_refl _)
 have g2:=scanDown_le (fun x=>ltInt d[a]! x) d (scanUp (fun x=> !ltInt d[a]! x) d j i) j
 split
 ·rfl
 ·rw[dif_pos (by omega)]
theorem Pw(N:Nat)(d:Array Int)(a b pivot:Nat)(hb:b≤d.size)(hap:a≤pivot)(hpb:pivot<b)(hs:d.size<1000000000000)(hN:d.size+3<N):
 aL.S N (d.toList,d.size,(a:Int),(b:Int),(pivot:Int))=some (((partitionEqual ltInt d a b pivot).1:Int),(partitionEqual ltInt d a b pivot).2.toList):=by
 show(iC d.toList d.size (a:Int) (b:Int) (pivot:Int)).run N=_;simp only[iC,G.run,aI,if_true,cQ,iq,fe,vZ];have ia:=dZ (show a<d.size by omega)
 simp only[if_pos (dZ (show pivot<d.size by omega)),if_pos ia,Int.toNat_natCast,bN d (show pivot<d.size by omega),bN d (show a<d.size by omega),Option.bind_some,bG (x:=(a:Int)+1) (n:=a+1) (by omega) (by omega),bG (x:=(b:Int) - 1) (n:=b - 1) (by omega) (by omega)]
 rw[nv,jD,bN _ (by simp;omega)]
 simp only[Option.bind_some];have hP:partitionEqual ltInt d a b pivot=partEqLoop ltInt a (a+1) (b - 1) (swp d a pivot):=rfl;rw[hP];have hsz:(swp d a pivot).size=d.size:=eE _ _ _;generalize swp d a pivot=e2 at*;refine qd (I:=fun s=>∃(i j:Nat) (q:Array Int),s=((i:Int),(j:Int),q.toList)∧a+1≤i∧i≤b+1∧j≤b - 1∧q.size=d.size∧partEqLoop ltInt a i j q=partEqLoop ltInt a (a+1) (b - 1) e2) (m:=fun s=>(s.2.1+1 - s.1).toNat)
  (Q:=fun t=>t=(((partEqLoop ltInt a (a+1) (b - 1) e2).1:Int),(partEqLoop ltInt a (a+1) (b - 1) e2).2.toList))
  ⟨a+1,b - 1,e2,rfl,by omega,by omega,by omega,hsz,rfl⟩ (by simp only;omega) (fun s hs'=>?_) (fun t ht=>by subst ht;rfl)
 obtain⟨i,j,q,rfl,h1,h2,h3,h4,h5⟩:=hs';have gq:=bN q (show a<q.size by omega)
 have hE:=partEqLoop_eq a i j q;have hu1:=scanUp_ge (fun x=> !ltInt q[a]! x) q j _ i (Nat.le_refl _)
 generalize hu:scanUp (fun x=> !ltInt q[a]! x) q j i=u at*
 have hd1:=scanDown_le (fun x=>ltInt q[a]! x) q u j
 generalize hv:scanDown (fun x=>ltInt q[a]! x) q u j=v at*
 by_cases huv:u>v
 ·rw[if_pos huv]at hE;left;refine⟨((u:Int),q.toList),?_,by rw[← h5,hE]⟩
  refine uu (fun x=> !ltInt q[a]! x) q j i (by omega) (fun i' g1 g2=>?_) (fun i' g1=>?_) ?_
  ·rw[if_pos (by simp;omega)]
   simp only[gq,Option.bind_some,if_pos (dZ (show i'<d.size by omega)),Int.toNat_natCast,bN q (show i'<q.size by omega),bG (x:=(i':Int)+1) (n:=i'+1) (by omega) (by omega)]
   try rfl
  ·rw[if_neg (by simp;omega)]
   try rfl
  rw[hu];refine qW (fun x=>ltInt q[a]! x) q u j (by omega) (by omega) (fun j' g1 g2=>?_) (fun j' g1=>?_) ?_
  ·rw[if_pos (by simp;omega)]
   simp only[gq,Option.bind_some,if_pos (dZ (show j'<d.size by omega)),Int.toNat_natCast,bN q (show j'<q.size by omega),bG (x:=(j':Int) - 1) (n:=j' - 1) (by omega) (by omega)]
   try rfl
  ·rw[if_neg (by simp;omega)]
   try rfl
  rw[hv];rw[if_pos (by simp;omega)]
 ·rw[if_neg huv]at hE;right;refine⟨(((u+1:Nat):Int),((v - 1:Nat):Int),(swp q u v).toList),?_,⟨u+1,v - 1,swp q u v,rfl,by omega,by omega,by omega,by rw[eE];exact h4,by rw[← hE];exact h5⟩,by simp only;omega⟩
  refine uu (fun x=> !ltInt q[a]! x) q j i (by omega) (fun i' g1 g2=>?_) (fun i' g1=>?_) ?_
  ·rw[if_pos (by simp;omega)]
   simp only[gq,Option.bind_some,if_pos (dZ (show i'<d.size by omega)),Int.toNat_natCast,bN q (show i'<q.size by omega),bG (x:=(i':Int)+1) (n:=i'+1) (by omega) (by omega)]
   try rfl
  ·rw[if_neg (by simp;omega)]
   try rfl
  rw[hu];refine qW (fun x=>ltInt q[a]! x) q u j (by omega) (by omega) (fun j' g1 g2=>?_) (fun j' g1=>?_) ?_
  ·rw[if_pos (by simp;omega)]
   simp only[gq,Option.bind_some,if_pos (dZ (show j'<d.size by omega)),Int.toNat_natCast,bN q (show j'<q.size by omega),bG (x:=(j':Int) - 1) (n:=j' - 1) (by omega) (by omega)]
   try rfl
  ·rw[if_neg (by simp;omega)]
   try rfl
  rw[hv];rw[if_neg (by simp;omega)]
  simp only[cQ,iq,fe,Option.bind_some,if_pos (dZ (show u<d.size by omega)),bN q (show u<q.size by omega),Int.toNat_natCast,if_pos (dZ (show v<d.size by omega)),bN q (show v<q.size by omega)]
  rw[nv,jD,bN _ (by simp;omega)]
  simp only[Option.bind_some,bG (x:=(u:Int)+1) (n:=u+1) (by omega) (by omega),bG (x:=(v:Int) - 1) (n:=v - 1) (by omega) (by omega)]
end Go.L
