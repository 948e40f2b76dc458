/- Parts put together. No conditions. -/
import Derived.Test.YtiohninblcifpaaGreatDoorWs
import Derived.Test.YtiohninblcifpaaGreatDoorAd
import Derived.Sort.AssemblyPlain
import Derived.Sort.LotD4
import Derived.Sort.LotD5
import Derived.Sort.Walk13a
import Derived.Laws.Bits64
import Derived.Shelf.Small.Bits
import Derived.Lib.SlicesCompact
import Derived.Test.YtiohninblcifpaaGreatDoorPTt0
set_option linter.unusedSimpArgs false
set_option linter.unusedVariables false
set_option maxRecDepth 100000
section
namespace Go.L
open Go.AM Go.Sort
theorem IB{σ τ:Type}{f:σ→Option (σ⊕τ)}(I:σ→Prop)(m:σ→Nat)(F:σ→τ)(step:∀s,I s→f s=some (.inr (F s))∨∃s',f s=some (.inl s')∧I s'∧F s'=F s∧m s'<m s):
 ∀(N:Nat) (s:σ),I s→m s<N→bV f N s=some (F s)
 | 0,s,_,h=>absurd h (Nat.not_lt_zero _)
 |N+1,s,hi,h=>by
  rcases step s hi with e |⟨s',e,hi',hF,hm⟩
  ·simp only[bV,e]
  ·simp only[bV,e];rw[IB I m F step N s' hi' (by omega),hF]
theorem lM{σ τ β:Type}{f:σ→Option (σ⊕τ)}{k:τ→Option β}{N:Nat}{s:σ}{r:Option β}(I:σ→Prop)(m:σ→Nat)(F:σ→τ)(hI:I s)(hm:m s<N)
 (step:∀s,I s→f s=some (.inr (F s))∨∃s',f s=some (.inl s')∧I s'∧F s'=F s∧m s'<m s) (hk:k (F s)=r):(bV f N s).bind k=r:=by
 rw[IB I m F step N s hI hm];exact hk
theorem ya{n:Nat}(x y:Int){β:Type}(k:kj.sh.El→Option β):(kj.S n (x,y)).bind k=k (ltInt x y):=by
 have:kj.S n (x,y)=some (ltInt x y):=by
  show(tq x y).run n=_;have e:∀(z:Int),gH.S n z=some false:=fun z=>by
   show(rI z).run n=_;simp only[rI,G.run,aO,if_true];rw[show(z != z)=false by simp]
   rfl
  have eb:∀(z:Int) {β:Type} (k:gH.sh.El→Option β),(gH.S n z).bind k=k false:=fun z β k=>by rw[e];rfl
  simp only[tq,G.run,aO,if_true,eb,Bool.false_eq_true,if_false,ltInt];rfl
 rw[this];rfl
theorem bG(d:Array Int){i:Nat}(h:i<d.size):d.toList[i]? =some d[i]! :=by
 rw[getElem!_pos d i h];simp[h]
theorem jt(d:Array Int)(i:Nat)(x:Int):d.toList.set i x=(d.setIfInBounds i x).toList:=by simp
theorem mJ(d:Array Int)(i j:Nat):(d.toList.set i d[j]!).set j d[i]! =(swp d i j).toList:=by simp[swp]
theorem fm(d:Array Int)(i j:Nat):(swp d i j).size=d.size:=by simp[swp]
theorem jC{X β:Type}(l:List X)(enc:X→List AVal)(n b ak i o:Nat)(y:X→X)(k:X→Option β):(OS l enc n b ak i o y).run.bind k=(l[i]?).bind k:=rfl
theorem CX(a:Nat):∀(j:Nat) (d:Array Int),(insInner ltInt a j d).size=d.size
 | 0,d=>rfl
 |j+1,d=>by
  rw[insInner];split
  ·rw[CX a j,fm]
  ·rfl
theorem Ja(N:Nat)(d:Array Int)(a b:Nat)(hb:b≤d.size)(hab:a≤b)(hs:d.size<4611686018427387904)(hN:d.size<N):
 fV.S N (d.toList,d.size,(a:Int),(b:Int))=some (insertionSort ltInt d a b).toList:=by
 show(iA d.toList d.size (a:Int) (b:Int)).run N=_;simp only[iA,G.run,aO,if_true,ya,fS,iN];have w1:IntKind.wrap .i64 ((a:Int)+1)=((a+1:Nat):Int):=by rw[wrap_i64 (by omega) (by omega)];omega
 rw[w1];refine lM (I:=fun s=>∃(i:Nat) (e:Array Int),s=((i:Int),e.toList)∧a<i∧i≤b+1∧e.size=d.size∧insOuter ltInt a b i e=insertionSort ltInt d a b) (m:=fun s=>b+1 - s.1.toNat) (F:=fun _=>(insertionSort ltInt d a b).toList)
  ⟨a+1,d,rfl,by omega,by omega,rfl,rfl⟩ (by omega) (fun s hs'=>?_) rfl
 obtain⟨i,e,rfl,h1,h2,h3,h4⟩:=hs';by_cases hib:i<b
 ·have c1:decide ((i:Int)<(b:Int))=true:=by simp;omega
  simp only[c1,if_true];right;have hO:insOuter ltInt a b i e=insOuter ltInt a b (i+1) (insInner ltInt a i e):=by rw[insOuter,if_pos hib]
  refine⟨(((i+1:Nat):Int),(insInner ltInt a i e).toList),?_,⟨i+1,insInner ltInt a i e,rfl,by omega,by omega,by rw[CX];exact h3,by rw[← hO];exact h4⟩,rfl,by simp only;omega⟩
  have w2:IntKind.wrap .i64 ((i:Int)+1)=((i+1:Nat):Int):=by rw[wrap_i64 (by omega) (by omega)];omega
  refine lM (I:=fun s=>∃(j:Nat) (e':Array Int),s=((j:Int),e'.toList)∧a≤j∧j≤i∧e'.size=d.size∧insInner ltInt a j e'=insInner ltInt a i e) (m:=fun s=>s.1.toNat) (F:=fun _=>(insInner ltInt a i e).toList)
   ⟨i,e,rfl,by omega,by omega,h3,rfl⟩ (by simp only;omega) (fun s hs'=>?_) (by rw[w2])
  obtain⟨j,e',rfl,g1,g2,g3,g4⟩:=hs';by_cases hja:a<j
  ·have c2:decide ((j:Int)>(a:Int))=true:=by simp;omega
   obtain⟨j',rfl⟩:∃j',j=j'+1:=⟨j - 1,by omega⟩
   have w3:IntKind.wrap .i64 (((j'+1:Nat):Int) - 1)=(j':Int):=by rw[wrap_i64 (by omega) (by omega)];omega
   have r1:(0:Int)≤((j'+1:Nat):Int)∧((j'+1:Nat):Int)<(d.size:Int):=by omega
   have r2:(0:Int)≤(j':Int)∧(j':Int)<(d.size:Int):=by omega
   simp only[c2,if_true,w3,Int.toNat_natCast,if_pos r1,if_pos r2,bG e' (show j'+1<e'.size by omega),bG e' (show j'<e'.size by omega),Option.bind_some,ya]
   have hI:insInner ltInt a (j'+1) e'=if decide (j'+1>a)&&ltInt e'[j'+1]! e'[j']! then insInner ltInt a j' (swp e' (j'+1) j')else e':=rfl
   cases hl:ltInt e'[j'+1]! e'[j']! with
   |true=>
    right;refine⟨((j':Int),(swp e' (j'+1) j').toList),?_,⟨j',swp e' (j'+1) j',rfl,by omega,by omega,by rw[fm];exact g3,?_⟩,rfl,by simp only[Int.toNat_natCast];omega⟩
    ·simp only[if_true,jC,bG e' (show j'+1<e'.size by omega),bG e' (show j'<e'.size by omega),Option.bind_some]
     rw[← mJ];rw[jt,bG _ (by simp;omega)];rfl
    ·rw[← g4,hI,hl];simp;omega
   |false=>
    left;simp only[Bool.false_eq_true,if_false];rw[hl,Bool.and_false,if_neg (by simp)]at hI
    rw[← g4,hI]
  ·have c2:decide ((j:Int)>(a:Int))=false:=by simp;omega
   left;simp only[c2,Bool.false_eq_true,if_false];have:insInner ltInt a j e'=e':=by
    cases j with
    |zero=>rfl
    |succ j'=>rw[insInner,if_neg (by simp;omega)]
   rw[← g4,this]
 ·have c1:decide ((i:Int)<(b:Int))=false:=by simp;omega
  left;simp only[c1,Bool.false_eq_true,if_false];have:insOuter ltInt a b i e=e:=by rw[insOuter,if_neg hib]
  rw[← h4,this]
theorem Us{n:Nat}(h:n<9000000000000000000):IntKind.wrap .i64 (n:Int)=(n:Int):=wrap_i64 (by omega) (by omega)
theorem bJ{x:Int}{n:Nat}(h:x=(n:Int))(hn:n<9000000000000000000):IntKind.wrap .i64 x=(n:Int):=by rw[h];exact Us hn
theorem fL{n:Nat}{m:Nat}(h:n<m):(0:Int)≤(n:Int)∧(n:Int)<(m:Int):=by omega
theorem LX(N:Nat)(d:Array Int)(a b:Nat)(hb:b≤d.size)(hab:a<b)(hs:d.size<4611686018427387904)(hN:d.size<N):
 gp.S N (d.toList,d.size,(a:Int),(b:Int))=some (reverseRange d a b).toList:=by
 show(iI d.toList d.size (a:Int) (b:Int)).run N=_;simp only[iI,G.run,aO,if_true,fS,iN,jC];rw[bJ (x:=(b:Int) - 1) (n:=b - 1) (by omega) (by omega)]
 refine lM (I:=fun s=>∃(i j:Nat) (e:Array Int),s=((i:Int),(j:Int),e.toList)∧a≤i∧j<b∧i≤j+1∧e.size=d.size∧reverseLoop i j e=reverseRange d a b) (m:=fun s=>s.2.1.toNat+1 - s.1.toNat) (F:=fun _=>(reverseRange d a b).toList)
  ⟨a,b - 1,d,rfl,by omega,by omega,by omega,rfl,rfl⟩ (by simp only[Int.toNat_natCast];omega) (fun s hs'=>?_) rfl
 obtain⟨i,j,e,rfl,h1,h2,h3,h4,h5⟩:=hs';by_cases hij:i<j
 ·right;have hO:reverseLoop i j e=reverseLoop (i+1) (j - 1) (swp e i j):=by rw[reverseLoop,if_pos hij]
  refine⟨(((i+1:Nat):Int),((j - 1:Nat):Int),(swp e i j).toList),?_,⟨i+1,j - 1,swp e i j,rfl,by omega,by omega,by omega,by rw[fm];exact h4,by rw[← hO];exact h5⟩,rfl,by simp only[Int.toNat_natCast];omega⟩
  rw[if_pos (by simp;omega)]
  simp only[if_pos (fL (show i<d.size by omega)),if_pos (fL (show j<d.size by omega)),Int.toNat_natCast,bG e (show i<e.size by omega),bG e (show j<e.size by omega),Option.bind_some,bJ (x:=(i:Int)+1) (n:=i+1) (by omega) (by omega),bJ (x:=(j:Int) - 1) (n:=j - 1) (by omega) (by omega)]
  rw[← mJ,jt,bG _ (by simp;omega)]
  rfl
 ·left;have hO:reverseLoop i j e=e:=by rw[reverseLoop,if_neg hij]
  rw[if_neg (by simp;omega),← h5,hO]
theorem Bk(hi first root:Nat)(d:Array Int):siftDown ltInt hi first root d=if 2*root+1≥hi then d else
 if 2*root+1+1<hi&&ltInt d[first+(2*root+1)]! d[first+(2*root+1)+1]! then
  if !ltInt d[first+root]! d[first+(2*root+2)]! then d else
   if 2*root+2<hi then siftDown ltInt hi first (2*root+2) (swp d (first+root) (first+(2*root+2)))else d
 else
  if !ltInt d[first+root]! d[first+(2*root+1)]! then d else siftDown ltInt hi first (2*root+1) (swp d (first+root) (first+(2*root+1))):=by
 rw[siftDown];rfl
theorem HC{σ τ:Type}{f:σ→Option (σ⊕τ)}(I:σ→Prop)(m:σ→Nat)(Q:τ→Prop)(step:∀s,I s→(∃t,f s=some (.inr t)∧Q t)∨∃s',f s=some (.inl s')∧I s'∧m s'<m s):
 ∀(N:Nat) (s:σ),I s→m s<N→∃t,bV f N s=some t∧Q t
 | 0,s,_,h=>absurd h (Nat.not_lt_zero _)
 |N+1,s,hi,h=>by
  rcases step s hi with⟨t,e,hq⟩ |⟨s',e,hi',hm⟩
  ·exact⟨t,by simp only[bV,e],hq⟩
  ·obtain⟨t,h1,h2⟩:=HC I m Q step N s' hi' (by omega)
   exact⟨t,by simp only[bV,e,h1],h2⟩
theorem uW{σ τ β:Type}{f:σ→Option (σ⊕τ)}{k:τ→Option β}{N:Nat}{s:σ}{r:Option β}(I:σ→Prop)(m:σ→Nat)(Q:τ→Prop)(hI:I s)(hm:m s<N)
 (step:∀s,I s→(∃t,f s=some (.inr t)∧Q t)∨∃s',f s=some (.inl s')∧I s'∧m s'<m s) (hk:∀t,Q t→k t=r):(bV f N s).bind k=r:=by
 obtain⟨t,h1,h2⟩:=HC I m Q step N s hI hm;rw[h1];exact hk t h2
theorem size_siftDown(hi first:Nat):∀(n root:Nat) (d:Array Int),hi - root≤n→(siftDown ltInt hi first root d).size=d.size
 | 0,root,d,h=>by
  rw[Bk,if_pos (by omega)]
 |n+1,root,d,h=>by
  rw[Bk]
  repeat' split
  all_goals first |rfl | (rw[size_siftDown hi first n _ _ (by omega),fm])
theorem Rm(N:Nat)(d:Array Int)(lo hi first:Nat)(hlo:lo≤hi)(hb:first+hi≤d.size)(hs:d.size<1000000000000)(hN:d.size+1<N):
 fN.S N (d.toList,d.size,(lo:Int),(hi:Int),(first:Int))=some (siftDown ltInt hi first lo d).toList:=by
 show(jL d.toList d.size (lo:Int) (hi:Int) (first:Int)).run N=_
 simp only[jL,G.run,aO,if_true,fS,iN,jC,ya];refine uW (I:=fun s=>∃(root:Nat) (e:Array Int),s=((root:Int),e.toList)∧root≤hi∧e.size=d.size∧siftDown ltInt hi first root e=siftDown ltInt hi first lo d) (m:=fun s=>hi - s.1.toNat) (Q:=fun t=>t=.inl (siftDown ltInt hi first lo d).toList∨t=.inr (siftDown ltInt hi first lo d).toList)
  ⟨lo,d,rfl,by omega,rfl,rfl⟩ (by simp only[Int.toNat_natCast];omega) (fun s hs'=>?_) (fun t ht=>by rcases ht with rfl |rfl<;>rfl)
 obtain⟨r,e,rfl,h1,h2,h3⟩:=hs';have w1:IntKind.wrap .i64 ((2:Int)*(r:Int))=((2*r:Nat):Int):=bJ (by omega) (by omega)
 have w2:IntKind.wrap .i64 (((2*r:Nat):Int)+1)=((2*r+1:Nat):Int):=bJ (by omega) (by omega)
 have w3:IntKind.wrap .i64 (((2*r+1:Nat):Int)+1)=((2*r+2:Nat):Int):=bJ (by omega) (by omega)
 have w4:IntKind.wrap .i64 ((first:Int)+((2*r+1:Nat):Int))=((first+(2*r+1):Nat):Int):=bJ (by omega) (by omega)
 have w5:IntKind.wrap .i64 (((first+(2*r+1):Nat):Int)+1)=((first+(2*r+2):Nat):Int):=bJ (by omega) (by omega)
 have w6:IntKind.wrap .i64 ((first:Int)+(r:Int))=((first+r:Nat):Int):=bJ (by omega) (by omega)
 have w7:IntKind.wrap .i64 ((first:Int)+((2*r+2:Nat):Int))=((first+(2*r+2):Nat):Int):=bJ (by omega) (by omega)
 simp only[w1,w2,w3,w4,w5,w6,w7];rw[Bk]at h3;by_cases c1:2*r+1≥hi
 ·rw[if_pos c1]at h3;left;exact⟨.inl e.toList,by rw[if_pos (by simp;omega)],.inl (by rw[h3])⟩
 ·rw[if_neg c1]at h3;rw[if_neg (by simp;omega)]
  have i1:=fL (show first+(2*r+1)<d.size by omega)
  have i0:=fL (show first+r<d.size by omega)
  have g1:=bG e (show first+(2*r+1)<e.size by omega)
  have g0:=bG e (show first+r<e.size by omega)
  by_cases c2:2*r+1+1<hi
  ·rw[if_pos (by simp;omega)]
   have i2:=fL (show first+(2*r+2)<d.size by omega)
   have g2:=bG e (show first+(2*r+2)<e.size by omega)
   simp only[if_pos i1,if_pos i2,if_pos i0,Int.toNat_natCast,g1,g2,g0,Option.bind_some];rw[show first+(2*r+1)+1=first+(2*r+2)by omega]at h3
   cases hl1:ltInt e[first+(2*r+1)]! e[first+(2*r+2)]! with
   |true=>
    rw[hl1,if_pos (by simp;omega)]at h3
    simp only[if_true];cases hl2:ltInt e[first+r]! e[first+(2*r+2)]! with
    |false=>
     rw[hl2]at h3;left;exact⟨.inr e.toList,rfl,.inr (by rw[← h3];rfl)⟩
    |true=>
     rw[hl2,if_neg (by simp),if_pos (by omega)]at h3
     right;refine⟨(((2*r+2:Nat):Int),(swp e (first+r) (first+(2*r+2))).toList),?_,⟨2*r+2,swp e (first+r) (first+(2*r+2)),rfl,by omega,by rw[fm];exact h2,h3⟩,by simp only[Int.toNat_natCast];omega⟩
     simp only[Bool.not_true,Bool.false_eq_true,if_false];rw[← mJ,jt,bG _ (by simp;omega)]
     rfl
   |false=>
    rw[hl1,if_neg (by simp)]at h3
    simp only[Bool.false_eq_true,if_false];cases hl2:ltInt e[first+r]! e[first+(2*r+1)]! with
    |false=>
     rw[hl2]at h3;left;exact⟨.inr e.toList,rfl,.inr (by rw[← h3];rfl)⟩
    |true=>
     rw[hl2,if_neg (by simp)]at h3
     right;refine⟨(((2*r+1:Nat):Int),(swp e (first+r) (first+(2*r+1))).toList),?_,⟨2*r+1,swp e (first+r) (first+(2*r+1)),rfl,by omega,by rw[fm];exact h2,h3⟩,by simp only[Int.toNat_natCast];omega⟩
     simp only[Bool.not_true,Bool.false_eq_true,if_false];rw[← mJ,jt,bG _ (by simp;omega)]
     rfl
  ·rw[if_neg (by simp;omega)]
   rw[if_neg (by simp;omega)]at h3
   simp only[if_pos i1,if_pos i0,Int.toNat_natCast,g1,g0,Option.bind_some];cases hl2:ltInt e[first+r]! e[first+(2*r+1)]! with
   |false=>
    rw[hl2]at h3;left;exact⟨.inr e.toList,rfl,.inr (by rw[← h3];rfl)⟩
   |true=>
    rw[hl2,if_neg (by simp)]at h3
    right;refine⟨(((2*r+1:Nat):Int),(swp e (first+r) (first+(2*r+1))).toList),?_,⟨2*r+1,swp e (first+r) (first+(2*r+1)),rfl,by omega,by rw[fm];exact h2,h3⟩,by simp only[Int.toNat_natCast];omega⟩
    simp only[Bool.not_true,Bool.false_eq_true,if_false];rw[← mJ,jt,bG _ (by simp;omega)]
    rfl
theorem PI(N:Nat)(e:Array Int)(n lo hi first:Nat)(he:e.size=n)(hlo:lo≤hi)(hb:first+hi≤n)(hs:n<1000000000000)(hN:n+1<N){β:Type}(k:fN.sh.El→Option β):
 (fN.S N (e.toList,n,(lo:Int),(hi:Int),(first:Int))).bind k=k (siftDown ltInt hi first lo e).toList:=by
 subst he;exact(congrArg (fun o=>Option.bind o k) (Rm N e lo hi first hlo hb hs hN)).trans rfl
theorem Rn(N:Nat)(d:Array Int)(a b:Nat)(hb:b≤d.size)(hab:a≤b)(hs:d.size<1000000000000)(hN:d.size+2<N):
 gP.S N (d.toList,d.size,(a:Int),(b:Int))=some (heapSort ltInt d a b).toList:=by
 show(jM d.toList d.size (a:Int) (b:Int)).run N=_;simp only[jM,G.run,aO,if_true,fS,iN,jC,bJ (x:=(b:Int) - (a:Int)) (n:=b - a) (by omega) (by omega)]
 have w0:IntKind.wrap .i64 (Int.tdiv (IntKind.wrap .i64 (((b - a:Nat):Int) - 1)) 2)=(((b - a - 1) / 2+1:Nat):Int) - 1:=by
  by_cases h:b - a=0
  ·rw[h];decide
  ·rw[bJ (x:=((b - a:Nat):Int) - 1) (n:=b - a - 1) (by omega) (by omega)]
   rw[show Int.tdiv ((b - a - 1:Nat):Int) 2=(((b - a - 1) / 2:Nat):Int)by rw[Int.tdiv_eq_ediv_of_nonneg (by omega)];omega]
   rw[Us (by omega)];omega
 rw[w0];refine lM (I:=fun s=>∃(k:Nat) (e:Array Int),s=((k:Int) - 1,e.toList)∧k≤(b - a - 1) / 2+1∧e.size=d.size∧heapBuild ltInt (b - a) a k e=heapBuild ltInt (b - a) a ((b - a - 1) / 2+1) d) (m:=fun s=>(s.1+1).toNat) (F:=fun _=>(heapBuild ltInt (b - a) a ((b - a - 1) / 2+1) d).toList)
  ⟨_,d,rfl,Nat.le_refl _,rfl,rfl⟩ (by simp only;omega) (fun s hs'=>?_) ?_
 ·obtain⟨k,e,rfl,h1,h2,h3⟩:=hs';cases k with
  |zero=>
   left;rw[if_neg (by simp)]
   show some (Sum.inr e.toList)=_;rw[← h3];rfl
  |succ k=>
   right;have hsz:(siftDown ltInt (b - a) a k e).size=d.size:=by rw[size_siftDown _ _ _ _ _ (Nat.le_refl _)];exact h2
   refine⟨((k:Int) - 1,(siftDown ltInt (b - a) a k e).toList),?_,⟨k,_,rfl,by omega,hsz,h3⟩,rfl,by simp only;omega⟩
   rw[if_pos (by simp)]
   rw[show(((k+1:Nat):Int) - 1)=(k:Int)by omega]
   rw[PI N e d.size k (b - a) a h2 (by omega) (by omega) hs (by omega)]
   rw[show IntKind.wrap .i64 ((k:Int) - 1)=(k:Int) - 1 from wrap_i64 (by omega) (by omega)]
 ·have hB:(heapBuild ltInt (b - a) a ((b - a - 1) / 2+1) d).size=d.size:=by
   have:∀(k:Nat) (e:Array Int),(heapBuild ltInt (b - a) a k e).size=e.size:=by
    intro k;induction k with
    |zero=>intro e;rfl
    |succ k ih=>intro e;rw[heapBuild,ih,size_siftDown _ _ _ _ _ (Nat.le_refl _)]
   exact this _ _
  rw[show IntKind.wrap .i64 (((b - a:Nat):Int) - 1)=((b - a:Nat):Int) - 1 from wrap_i64 (by omega) (by omega)]
  refine lM (I:=fun s=>∃(k:Nat) (e:Array Int),s=((k:Int) - 1,e.toList)∧k≤b - a∧e.size=d.size∧heapPop ltInt a k e=heapSort ltInt d a b) (m:=fun s=>(s.1+1).toNat) (F:=fun _=>(heapSort ltInt d a b).toList)
   ⟨_,_,rfl,Nat.le_refl _,hB,rfl⟩ (by simp only;omega) (fun s hs'=>?_) rfl
  obtain⟨k,e,rfl,h1,h2,h3⟩:=hs';cases k with
  |zero=>
   left;rw[if_neg (by simp)]
   show some (Sum.inr e.toList)=_;rw[← h3];rfl
  |succ k=>
   right;have hsz:(siftDown ltInt k a 0 (swp e a (a+k))).size=d.size:=by rw[size_siftDown _ _ _ _ _ (Nat.le_refl _),fm];exact h2
   refine⟨((k:Int) - 1,(siftDown ltInt k a 0 (swp e a (a+k))).toList),?_,⟨k,_,rfl,by omega,hsz,h3⟩,rfl,by simp only;omega⟩
   rw[if_pos (by simp)]
   rw[show(((k+1:Nat):Int) - 1)=(k:Int)by omega]
   simp only[bJ (x:=(a:Int)+(k:Int)) (n:=a+k) (by omega) (by omega),if_pos (fL (show a+k<d.size by omega)),if_pos (fL (show a<d.size by omega)),Int.toNat_natCast,bG e (show a<e.size by omega),bG e (show a+k<e.size by omega),Option.bind_some]
   rw[mJ,jt,bG _ (by simp;omega)]
   simp only[Option.bind_some];refine(PI N (swp e a (a+k)) d.size 0 k a (by rw[fm];exact h2) (by omega) (by omega) hs (by omega) _).trans ?_
   rw[show IntKind.wrap .i64 ((k:Int) - 1)=(k:Int) - 1 from wrap_i64 (by omega) (by omega)]
theorem scanUp_ge(p:Int→Bool)(d:Array Int)(j:Nat):∀(n i:Nat),j+1 - i≤n→i≤scanUp p d j i
 | 0,i,h=>by
  rw[scanUp,if_neg (by simp;omega)];exact Nat.le_refl _
 |n+1,i,h=>by
  rw[scanUp];split
  ·exact Nat.le_trans (Nat.le_succ _) (scanUp_ge p d j n (i+1) (by omega))
  ·exact Nat.le_refl _
theorem IC(p:Int→Bool)(d:Array Int)(j:Nat):∀(n i:Nat),j+1 - i≤n→i≤j+1→scanUp p d j i≤j+1
 | 0,i,h,hi=>by
  rw[scanUp,if_neg (by simp;omega)];exact hi
 |n+1,i,h,hi=>by
  rw[scanUp];split
  ·rename_i hc;simp only[Bool.and_eq_true,decide_eq_true_eq]at hc;exact IC p d j n (i+1) (by omega) (by omega)
  ·exact hi
theorem scanDown_le(p:Int→Bool)(d:Array Int)(i:Nat):∀j:Nat,scanDown p d i j≤j
 | 0=>Nat.le_refl _
 |j+1=>by
  rw[scanDown];split
  ·exact Nat.le_trans (scanDown_le p d i j) (Nat.le_succ _)
  ·exact Nat.le_refl _
theorem E6(p:Int→Bool)(d:Array Int)(i:Nat):∀j:Nat,i≤j+1→i≤scanDown p d i j+1
 | 0,h=>h
 |j+1,h=>by
  rw[scanDown];split
  ·rename_i hc;simp only[Bool.and_eq_true,decide_eq_true_eq]at hc;exact E6 p d i j hc.1
  ·exact h
theorem tX{β:Type}{f:Int→Option (Int⊕Int)}{k:Int→Option β}{N:Nat}{r:Option β}(p:Int→Bool)(e:Array Int)(j i0:Nat)(hN:j+3<N)
 (hf:∀i:Nat,i0≤i→i≤j→f (i:Int)=if p e[i]! =true then some (.inl ((i+1:Nat):Int))else some (.inr (i:Int))) (hx:∀i:Nat,j<i→f (i:Int)=some (.inr (i:Int)))
 (hk:k ((scanUp p e j i0:Nat):Int)=r):(bV f N (i0:Int)).bind k=r:=by
 refine lM (I:=fun s=>∃i:Nat,s=(i:Int)∧i0≤i∧scanUp p e j i=scanUp p e j i0) (m:=fun s=>j+2 - s.toNat) (F:=fun _=>((scanUp p e j i0:Nat):Int)) ⟨i0,rfl,Nat.le_refl _,rfl⟩ (by simp only[Int.toNat_natCast];omega) (fun s hs=>?_) hk
 obtain⟨i,rfl,h1,h3⟩:=hs;by_cases hij:i≤j
 ·rw[hf i h1 hij];rw[scanUp]at h3;cases hp:p e[i]! with
  |true=>
   rw[hp,if_pos (by simp;omega)]at h3
   right;exact⟨((i+1:Nat):Int),by simp,⟨i+1,rfl,by omega,h3⟩,rfl,by simp only[Int.toNat_natCast];omega⟩
  |false=>
   rw[hp,if_neg (by simp)]at h3
   left;rw[if_neg (by simp),h3]
 ·rw[scanUp,if_neg (by simp;omega)]at h3
  left;rw[hx i (by omega),h3]
theorem qz{β:Type}{f:Int→Option (Int⊕Int)}{k:Int→Option β}{N:Nat}{r:Option β}(p:Int→Bool)(e:Array Int)(i j0:Nat)(hi:1≤i)(hN:j0+2<N)
 (hf:∀j:Nat,i≤j→j≤j0→f (j:Int)=if p e[j]! =true then some (.inl ((j - 1:Nat):Int))else some (.inr (j:Int))) (hx:∀j:Nat,j<i→f (j:Int)=some (.inr (j:Int)))
 (hk:k ((scanDown p e i j0:Nat):Int)=r):(bV f N (j0:Int)).bind k=r:=by
 refine lM (I:=fun s=>∃j:Nat,s=(j:Int)∧j≤j0∧scanDown p e i j=scanDown p e i j0) (m:=fun s=>s.toNat+1) (F:=fun _=>((scanDown p e i j0:Nat):Int)) ⟨j0,rfl,Nat.le_refl _,rfl⟩ (by simp only[Int.toNat_natCast];omega) (fun s hs=>?_) hk
 obtain⟨j,rfl,h2,h3⟩:=hs;by_cases hc:i≤j
 ·rw[hf j hc h2];obtain⟨j',rfl⟩:∃j',j=j'+1:=⟨j - 1,by omega⟩
  rw[scanDown]at h3;cases hp:p e[j'+1]! with
  |true=>
   rw[hp,if_pos (by simp;omega)]at h3
   right;exact⟨(j':Int),by simp,⟨j',rfl,by omega,h3⟩,rfl,by simp only[Int.toNat_natCast];omega⟩
  |false=>
   rw[hp,if_neg (by simp)]at h3
   left;rw[if_neg (by simp),h3]
 ·left;rw[hx j (by omega),← h3]
  cases j with
  |zero=>rfl
  |succ j'=>rw[scanDown,if_neg (by simp;omega)]
theorem partLoop_eq(a i j:Nat)(d:Array Int):partLoop ltInt a i j d=
 if scanUp (fun x=>ltInt x d[a]!) d j i>scanDown (fun x=> !ltInt x d[a]!) d (scanUp (fun x=>ltInt x d[a]!) d j i) j then(scanDown (fun x=> !ltInt x d[a]!) d (scanUp (fun x=>ltInt x d[a]!) d j i) j,d)
 else partLoop ltInt a (scanUp (fun x=>ltInt x d[a]!) d j i+1) (scanDown (fun x=> !ltInt x d[a]!) d (scanUp (fun x=>ltInt x d[a]!) d j i) j - 1)
  (swp d (scanUp (fun x=>ltInt x d[a]!) d j i) (scanDown (fun x=> !ltInt x d[a]!) d (scanUp (fun x=>ltInt x d[a]!) d j i) j)):=by
 rw[partLoop];have g1:=scanUp_ge (fun x=>ltInt x d[a]!) d j (j+1 - i) i (Nat.le_refl _)
 have g2:=scanDown_le (fun x=> !ltInt x d[a]!) d (scanUp (fun x=>ltInt x d[a]!) d j i) j
 split
 ·rfl
 ·rw[dif_pos (by omega)]
theorem Jb(N:Nat)(d:Array Int)(a b pivot:Nat)(hb:b≤d.size)(hap:a≤pivot)(hpb:pivot<b)(hs:d.size<1000000000000)(hN:d.size+3<N):
 fJ.S N (d.toList,d.size,(a:Int),(b:Int),(pivot:Int))=some (((partition ltInt d a b pivot).1:Int),(partition ltInt d a b pivot).2.1,(partition ltInt d a b pivot).2.2.toList):=by
 show(jA d.toList d.size (a:Int) (b:Int) (pivot:Int)).run N=_;simp only[jA,G.run,aO,if_true,fS,iN,jC,ya];simp only[if_pos (fL (show pivot<d.size by omega)),if_pos (fL (show a<d.size by omega)),Int.toNat_natCast,bG d (show pivot<d.size by omega),bG d (show a<d.size by omega),Option.bind_some,bJ (x:=(a:Int)+1) (n:=a+1) (by omega) (by omega),bJ (x:=(b:Int) - 1) (n:=b - 1) (by omega) (by omega)]
 rw[mJ,jt,bG _ (by simp;omega)]
 simp only[Option.bind_some];have hsz:(swp d a pivot).size=d.size:=fm _ _ _;have hP:partition ltInt d a b pivot=(let d:=swp d a pivot
  let i:=scanUp (fun x=>ltInt x d[a]!) d (b - 1) (a+1)
  let j:=scanDown (fun x=> !ltInt x d[a]!) d i (b - 1)
  if i>j then(j,true,swp d j a)else
   let r:=partLoop ltInt a (i+1) (j - 1) (swp d i j)
   (r.1,false,swp r.2 r.1 a)):=rfl
 rw[hP];generalize swp d a pivot=e at*;generalize d.size=n at*;subst hsz;simp only
 have ga:=bG e (show a<e.size by omega)
 have ia:=fL (show a<e.size by omega)
 have step1:∀i:Nat,a+1≤i→i≤b - 1→i<e.size:=fun i _ _=>by omega
 refine tX (fun x=>ltInt x e[a]!) e (b - 1) (a+1) (by omega) (fun i h1 h2=>?_) (fun i h1=>?_) ?_
 ·rw[if_pos (by simp;omega),if_pos (fL (show i<e.size by omega)),Int.toNat_natCast,bG e (show i<e.size by omega)]
  simp only[Option.bind_some,if_pos ia,ga,bJ (x:=(i:Int)+1) (n:=i+1) (by omega) (by omega)]
  try rfl
 ·rw[if_neg (by simp;omega)]
  try rfl
 have hu1:=scanUp_ge (fun x=>ltInt x e[a]!) e (b - 1) _ (a+1) (Nat.le_refl _)
 have hu2:=IC (fun x=>ltInt x e[a]!) e (b - 1) _ (a+1) (Nat.le_refl _) (by omega)
 generalize scanUp (fun x=>ltInt x e[a]!) e (b - 1) (a+1)=i2 at*
 refine qz (fun x=> !ltInt x e[a]!) e i2 (b - 1) (by omega) (by omega) (fun j h1 h2=>?_) (fun j h1=>?_) ?_
 ·rw[if_pos (by simp;omega),if_pos (fL (show j<e.size by omega)),Int.toNat_natCast,bG e (show j<e.size by omega)]
  simp only[Option.bind_some,if_pos ia,ga,bJ (x:=(j:Int) - 1) (n:=j - 1) (by omega) (by omega)]
  try rfl
 ·rw[if_neg (by simp;omega)]
  try rfl
 have hd1:=scanDown_le (fun x=> !ltInt x e[a]!) e i2 (b - 1)
 have hd2:=E6 (fun x=> !ltInt x e[a]!) e i2 (b - 1) (by omega)
 generalize scanDown (fun x=> !ltInt x e[a]!) e i2 (b - 1)=j2 at*
 by_cases hij:i2>j2
 ·rw[if_pos (by simp;omega),if_pos hij]
  simp only[fS,iN,jC,ga,Option.bind_some,if_pos (fL (show j2<e.size by omega)),bG e (show j2<e.size by omega),Int.toNat_natCast,if_pos ia]
  rw[mJ,jt,bG _ (by simp;omega)]
  rfl
 ·rw[if_neg (by simp;omega),if_neg hij]
  simp only[fS,iN,jC,Option.bind_some,if_pos (fL (show i2<e.size by omega)),bG e (show i2<e.size by omega),Int.toNat_natCast,if_pos (fL (show j2<e.size by omega)),bG e (show j2<e.size by omega)]
  rw[mJ,jt,bG _ (by simp;omega)]
  simp only[Option.bind_some,bJ (x:=(i2:Int)+1) (n:=i2+1) (by omega) (by omega),bJ (x:=(j2:Int) - 1) (n:=j2 - 1) (by omega) (by omega)]
  have hs2:(swp e i2 j2).size=e.size:=fm _ _ _;generalize swp e i2 j2=e2 at*;refine uW (I:=fun s=>∃(i j:Nat) (q:Array Int),s=((i:Int),(j:Int),q.toList)∧a+1≤i∧i≤b+1∧j≤b - 1∧q.size=e.size∧partLoop ltInt a i j q=partLoop ltInt a (i2+1) (j2 - 1) e2) (m:=fun s=>(s.2.1+1 - s.1).toNat)
   (Q:=fun t=>t=(((partLoop ltInt a (i2+1) (j2 - 1) e2).1:Int),(partLoop ltInt a (i2+1) (j2 - 1) e2).2.toList)∧(partLoop ltInt a (i2+1) (j2 - 1) e2).1<b∧(partLoop ltInt a (i2+1) (j2 - 1) e2).2.size=e.size)
   ⟨i2+1,j2 - 1,e2,rfl,by omega,by omega,by omega,hs2,rfl⟩ (by simp only;omega) (fun s hs'=>?_) (fun t ht=>?_)
  ·obtain⟨i,j,q,rfl,h1,h2,h3,h4,h5⟩:=hs';have gq:=bG q (show a<q.size by omega)
   have hE:=partLoop_eq a i j q;have hu1:=scanUp_ge (fun x=>ltInt x q[a]!) q j _ i (Nat.le_refl _)
   generalize hu:scanUp (fun x=>ltInt x q[a]!) q j i=u at*
   have hd1:=scanDown_le (fun x=> !ltInt x q[a]!) q u j
   generalize hv:scanDown (fun x=> !ltInt x q[a]!) q u j=v at*
   by_cases huv:u>v
   ·rw[if_pos huv]at hE;left;refine⟨((v:Int),q.toList),?_,by rw[← h5,hE],by rw[← h5,hE];show v<b;omega,by rw[← h5,hE];exact h4⟩
    refine tX (fun x=>ltInt x q[a]!) q j i (by omega) (fun i' g1 g2=>?_) (fun i' g1=>?_) ?_
    ·rw[if_pos (by simp;omega),if_pos (fL (show i'<e.size by omega)),Int.toNat_natCast,bG q (show i'<q.size by omega)]
     simp only[Option.bind_some,gq,bJ (x:=(i':Int)+1) (n:=i'+1) (by omega) (by omega)]
     try rfl
    ·rw[if_neg (by simp;omega)]
     try rfl
    rw[hu];refine qz (fun x=> !ltInt x q[a]!) q u j (by omega) (by omega) (fun j' g1 g2=>?_) (fun j' g1=>?_) ?_
    ·rw[if_pos (by simp;omega),if_pos (fL (show j'<e.size by omega)),Int.toNat_natCast,bG q (show j'<q.size by omega)]
     simp only[Option.bind_some,gq,bJ (x:=(j':Int) - 1) (n:=j' - 1) (by omega) (by omega)]
     try rfl
    ·rw[if_neg (by simp;omega)]
     try rfl
    rw[hv];rw[if_pos (by simp;omega)]
   ·rw[if_neg huv]at hE;right;refine⟨(((u+1:Nat):Int),((v - 1:Nat):Int),(swp q u v).toList),?_,⟨u+1,v - 1,swp q u v,rfl,by omega,by omega,by omega,by rw[fm];exact h4,by rw[← hE];exact h5⟩,by simp only;omega⟩
    refine tX (fun x=>ltInt x q[a]!) q j i (by omega) (fun i' g1 g2=>?_) (fun i' g1=>?_) ?_
    ·rw[if_pos (by simp;omega),if_pos (fL (show i'<e.size by omega)),Int.toNat_natCast,bG q (show i'<q.size by omega)]
     simp only[Option.bind_some,gq,bJ (x:=(i':Int)+1) (n:=i'+1) (by omega) (by omega)]
     try rfl
    ·rw[if_neg (by simp;omega)]
     try rfl
    rw[hu];refine qz (fun x=> !ltInt x q[a]!) q u j (by omega) (by omega) (fun j' g1 g2=>?_) (fun j' g1=>?_) ?_
    ·rw[if_pos (by simp;omega),if_pos (fL (show j'<e.size by omega)),Int.toNat_natCast,bG q (show j'<q.size by omega)]
     simp only[Option.bind_some,gq,bJ (x:=(j':Int) - 1) (n:=j' - 1) (by omega) (by omega)]
     try rfl
    ·rw[if_neg (by simp;omega)]
     try rfl
    rw[hv];rw[if_neg (by simp;omega)]
    simp only[fS,iN,jC,Option.bind_some,if_pos (fL (show u<e.size by omega)),bG q (show u<q.size by omega),Int.toNat_natCast,if_pos (fL (show v<e.size by omega)),bG q (show v<q.size by omega)]
    rw[mJ,jt,bG _ (by simp;omega)]
    simp only[Option.bind_some,bJ (x:=(u:Int)+1) (n:=u+1) (by omega) (by omega),bJ (x:=(v:Int) - 1) (n:=v - 1) (by omega) (by omega)]
  ·obtain⟨rfl,h1,h2⟩:=ht;generalize partLoop ltInt a (i2+1) (j2 - 1) e2=R at*;simp only[bG R.2 (show a<R.2.size by omega),bG R.2 (show R.1<R.2.size by omega),if_pos (fL (show R.1<e.size by omega)),Int.toNat_natCast,Option.bind_some]
   rw[mJ,jt,bG _ (by simp;omega)]
   rfl
theorem partEqLoop_eq(a i j:Nat)(d:Array Int):partEqLoop ltInt a i j d=
 if scanUp (fun x=> !ltInt d[a]! x) d j i>scanDown (fun x=>ltInt d[a]! x) d (scanUp (fun x=> !ltInt d[a]! x) d j i) j then(scanUp (fun x=> !ltInt d[a]! x) d j i,d)
 else partEqLoop ltInt a (scanUp (fun x=> !ltInt d[a]! x) d j i+1) (scanDown (fun x=>ltInt d[a]! x) d (scanUp (fun x=> !ltInt d[a]! x) d j i) j - 1)
  (swp d (scanUp (fun x=> !ltInt d[a]! x) d j i) (scanDown (fun x=>ltInt d[a]! x) d (scanUp (fun x=> !ltInt d[a]! x) d j i) j)):=by
 rw[partEqLoop];have g1:=scanUp_ge (fun x=> !ltInt d[a]! x) d j (j+1 - i) i (Nat.le_refl _)
 have g2:=scanDown_le (fun x=>ltInt d[a]! x) d (scanUp (fun x=> !ltInt d[a]! x) d j i) j
 split
 ·rfl
 ·rw[dif_pos (by omega)]
theorem N7(N:Nat)(d:Array Int)(a b pivot:Nat)(hb:b≤d.size)(hap:a≤pivot)(hpb:pivot<b)(hs:d.size<1000000000000)(hN:d.size+3<N):
 ee.S N (d.toList,d.size,(a:Int),(b:Int),(pivot:Int))=some (((partitionEqual ltInt d a b pivot).1:Int),(partitionEqual ltInt d a b pivot).2.toList):=by
 show(ij d.toList d.size (a:Int) (b:Int) (pivot:Int)).run N=_;simp only[ij,G.run,aO,if_true,fS,iN,jC,ya];have ia:=fL (show a<d.size by omega)
 simp only[if_pos (fL (show pivot<d.size by omega)),if_pos ia,Int.toNat_natCast,bG d (show pivot<d.size by omega),bG d (show a<d.size by omega),Option.bind_some,bJ (x:=(a:Int)+1) (n:=a+1) (by omega) (by omega),bJ (x:=(b:Int) - 1) (n:=b - 1) (by omega) (by omega)]
 rw[mJ,jt,bG _ (by simp;omega)]
 simp only[Option.bind_some];have hP:partitionEqual ltInt d a b pivot=partEqLoop ltInt a (a+1) (b - 1) (swp d a pivot):=rfl;rw[hP];have hsz:(swp d a pivot).size=d.size:=fm _ _ _;generalize swp d a pivot=e2 at*;refine uW (I:=fun s=>∃(i j:Nat) (q:Array Int),s=((i:Int),(j:Int),q.toList)∧a+1≤i∧i≤b+1∧j≤b - 1∧q.size=d.size∧partEqLoop ltInt a i j q=partEqLoop ltInt a (a+1) (b - 1) e2) (m:=fun s=>(s.2.1+1 - s.1).toNat)
  (Q:=fun t=>t=(((partEqLoop ltInt a (a+1) (b - 1) e2).1:Int),(partEqLoop ltInt a (a+1) (b - 1) e2).2.toList))
  ⟨a+1,b - 1,e2,rfl,by omega,by omega,by omega,hsz,rfl⟩ (by simp only;omega) (fun s hs'=>?_) (fun t ht=>by subst ht;rfl)
 obtain⟨i,j,q,rfl,h1,h2,h3,h4,h5⟩:=hs';have gq:=bG q (show a<q.size by omega)
 have hE:=partEqLoop_eq a i j q;have hu1:=scanUp_ge (fun x=> !ltInt q[a]! x) q j _ i (Nat.le_refl _)
 generalize hu:scanUp (fun x=> !ltInt q[a]! x) q j i=u at*
 have hd1:=scanDown_le (fun x=>ltInt q[a]! x) q u j
 generalize hv:scanDown (fun x=>ltInt q[a]! x) q u j=v at*
 by_cases huv:u>v
 ·rw[if_pos huv]at hE;left;refine⟨((u:Int),q.toList),?_,by rw[← h5,hE]⟩
  refine tX (fun x=> !ltInt q[a]! x) q j i (by omega) (fun i' g1 g2=>?_) (fun i' g1=>?_) ?_
  ·rw[if_pos (by simp;omega)]
   simp only[gq,Option.bind_some,if_pos (fL (show i'<d.size by omega)),Int.toNat_natCast,bG q (show i'<q.size by omega),bJ (x:=(i':Int)+1) (n:=i'+1) (by omega) (by omega)]
   try rfl
  ·rw[if_neg (by simp;omega)]
   try rfl
  rw[hu];refine qz (fun x=>ltInt q[a]! x) q u j (by omega) (by omega) (fun j' g1 g2=>?_) (fun j' g1=>?_) ?_
  ·rw[if_pos (by simp;omega)]
   simp only[gq,Option.bind_some,if_pos (fL (show j'<d.size by omega)),Int.toNat_natCast,bG q (show j'<q.size by omega),bJ (x:=(j':Int) - 1) (n:=j' - 1) (by omega) (by omega)]
   try rfl
  ·rw[if_neg (by simp;omega)]
   try rfl
  rw[hv];rw[if_pos (by simp;omega)]
 ·rw[if_neg huv]at hE;right;refine⟨(((u+1:Nat):Int),((v - 1:Nat):Int),(swp q u v).toList),?_,⟨u+1,v - 1,swp q u v,rfl,by omega,by omega,by omega,by rw[fm];exact h4,by rw[← hE];exact h5⟩,by simp only;omega⟩
  refine tX (fun x=> !ltInt q[a]! x) q j i (by omega) (fun i' g1 g2=>?_) (fun i' g1=>?_) ?_
  ·rw[if_pos (by simp;omega)]
   simp only[gq,Option.bind_some,if_pos (fL (show i'<d.size by omega)),Int.toNat_natCast,bG q (show i'<q.size by omega),bJ (x:=(i':Int)+1) (n:=i'+1) (by omega) (by omega)]
   try rfl
  ·rw[if_neg (by simp;omega)]
   try rfl
  rw[hu];refine qz (fun x=>ltInt q[a]! x) q u j (by omega) (by omega) (fun j' g1 g2=>?_) (fun j' g1=>?_) ?_
  ·rw[if_pos (by simp;omega)]
   simp only[gq,Option.bind_some,if_pos (fL (show j'<d.size by omega)),Int.toNat_natCast,bG q (show j'<q.size by omega),bJ (x:=(j':Int) - 1) (n:=j' - 1) (by omega) (by omega)]
   try rfl
  ·rw[if_neg (by simp;omega)]
   try rfl
  rw[hv];rw[if_neg (by simp;omega)]
  simp only[fS,iN,jC,Option.bind_some,if_pos (fL (show u<d.size by omega)),bG q (show u<q.size by omega),Int.toNat_natCast,if_pos (fL (show v<d.size by omega)),bG q (show v<q.size by omega)]
  rw[mJ,jt,bG _ (by simp;omega)]
  simp only[Option.bind_some,bJ (x:=(u:Int)+1) (n:=u+1) (by omega) (by omega),bJ (x:=(v:Int) - 1) (n:=v - 1) (by omega) (by omega)]
end Go.L
end
section
namespace Go.L
open Go.AM Go.Sort
theorem LY{β:Type}{f:Int→Option (Int⊕Int)}{k:Int→Option β}{N:Nat}{r:Option β}(e:Array Int)(b i0:Nat)(hi:i0≤b)(hN:b+1<N)
 (hf:∀i:Nat,i0≤i→i<b→f (i:Int)=if(!ltInt e[i]! e[i - 1]!)=true then some (.inl ((i+1:Nat):Int))else some (.inr (i:Int))) (hx:f (b:Int)=some (.inr (b:Int)))
 (hk:k ((scanSorted ltInt e b i0:Nat):Int)=r):(bV f N (i0:Int)).bind k=r:=by
 refine lM (I:=fun s=>∃i:Nat,s=(i:Int)∧i0≤i∧i≤b∧scanSorted ltInt e b i=scanSorted ltInt e b i0) (m:=fun s=>b - s.toNat) (F:=fun _=>((scanSorted ltInt e b i0:Nat):Int)) ⟨i0,rfl,Nat.le_refl _,hi,rfl⟩ (by simp only[Int.toNat_natCast];omega) (fun s hs=>?_) hk
 obtain⟨i,rfl,h1,h2,h3⟩:=hs;rw[scanSorted]at h3;by_cases hib:i<b
 ·rw[hf i h1 hib];cases hp: !ltInt e[i]! e[i - 1]! with
  |true=>
   rw[hp,if_pos (by simp;omega)]at h3
   right;exact⟨((i+1:Nat):Int),by simp,⟨i+1,rfl,by omega,by omega,h3⟩,rfl,by simp only[Int.toNat_natCast];omega⟩
  |false=>
   rw[hp,if_neg (by simp)]at h3
   left;rw[if_neg (by simp),h3]
 ·have:i=b:=by omega
  subst this;rw[if_neg (by simp)]at h3
  left;rw[hx,← h3]
theorem CY(e:Array Int)(b:Nat):∀(n i:Nat),b - i≤n→i≤b→i≤scanSorted ltInt e b i∧scanSorted ltInt e b i≤b
 | 0,i,h,h2=>by
  rw[scanSorted,if_neg (by simp;omega)];omega
 |n+1,i,h,h2=>by
  rw[scanSorted];split
  ·rename_i hc;simp only[Bool.and_eq_true,decide_eq_true_eq]at hc;have:=CY e b n (i+1) (by omega) (by omega)
   omega
  ·omega
theorem BT:∀(j:Nat) (d:Array Int),(shiftDown ltInt j d).size=d.size
 | 0,d=>rfl
 |j+1,d=>by
  rw[shiftDown];split
  ·rfl
  ·rw[BT j,fm]
theorem Aj(b:Nat):∀(n j:Nat) (d:Array Int),b - j≤n→(shiftUp ltInt b j d).size=d.size
 | 0,j,d,h=>by rw[shiftUp,if_neg (by omega)]
 |n+1,j,d,h=>by
  rw[shiftUp];split
  ·split
   ·rfl
   ·rw[Aj b n (j+1) _ (by omega),fm]
  ·rfl
theorem HD{β:Type}{f:Int×List Int→Option ((Int×List Int)⊕List Int)}{k:List Int→Option β}{N:Nat}{r:Option β}(n j0:Nat)(q0:Array Int)(h0:q0.size=n)(hN:j0+1<N)
 (hx:∀q:Array Int,q.size=n→f (((0:Nat):Int),q.toList)=some (.inr q.toList))
 (hf:∀(j:Nat) (q:Array Int),j<j0→q.size=n→f (((j+1:Nat):Int),q.toList)=if(!ltInt q[j+1]! q[j]!)=true then some (.inr q.toList)else some (.inl ((j:Int),(swp q (j+1) j).toList)))
 (hk:k (shiftDown ltInt j0 q0).toList=r):(bV f N ((j0:Int),q0.toList)).bind k=r:=by
 refine lM (I:=fun s=>∃(j:Nat) (q:Array Int),s=((j:Int),q.toList)∧j≤j0∧q.size=n∧shiftDown ltInt j q=shiftDown ltInt j0 q0) (m:=fun s=>s.1.toNat) (F:=fun _=>(shiftDown ltInt j0 q0).toList) ⟨j0,q0,rfl,Nat.le_refl _,h0,rfl⟩ (by simp only[Int.toNat_natCast];omega) (fun s hs=>?_) hk
 obtain⟨j,q,rfl,h1,h2,h3⟩:=hs;cases j with
 |zero=>left;rw[hx q h2,← h3];rfl
 |succ j=>
  rw[hf j q (by omega) h2]
  rw[shiftDown]at h3;cases hp: !ltInt q[j+1]! q[j]! with
  |true=>rw[hp,if_pos rfl]at h3;left;rw[if_pos rfl,h3]
  |false=>
   rw[hp,if_neg (by simp)]at h3
   right;exact⟨_,if_neg (by simp),⟨j,_,rfl,by omega,by rw[fm];exact h2,h3⟩,rfl,by simp only[Int.toNat_natCast];omega⟩
theorem DZ{β:Type}{f:Int×List Int→Option ((Int×List Int)⊕List Int)}{k:List Int→Option β}{N:Nat}{r:Option β}(n b j0:Nat)(q0:Array Int)(h0:q0.size=n)(hj:j0≤b)(hN:b+1<N)
 (hx:∀q:Array Int,q.size=n→f ((b:Int),q.toList)=some (.inr q.toList))
 (hf:∀(j:Nat) (q:Array Int),j0≤j→j<b→q.size=n→f ((j:Int),q.toList)=if(!ltInt q[j]! q[j - 1]!)=true then some (.inr q.toList)else some (.inl (((j+1:Nat):Int),(swp q j (j - 1)).toList)))
 (hk:k (shiftUp ltInt b j0 q0).toList=r):(bV f N ((j0:Int),q0.toList)).bind k=r:=by
 refine lM (I:=fun s=>∃(j:Nat) (q:Array Int),s=((j:Int),q.toList)∧j0≤j∧j≤b∧q.size=n∧shiftUp ltInt b j q=shiftUp ltInt b j0 q0) (m:=fun s=>b - s.1.toNat) (F:=fun _=>(shiftUp ltInt b j0 q0).toList) ⟨j0,q0,rfl,Nat.le_refl _,hj,h0,rfl⟩ (by simp only[Int.toNat_natCast];omega) (fun s hs=>?_) hk
 obtain⟨j,q,rfl,h1,hb,h2,h3⟩:=hs;rw[shiftUp]at h3;by_cases hjb:j<b
 ·rw[hf j q h1 hjb h2];rw[if_pos hjb]at h3;cases hp: !ltInt q[j]! q[j - 1]! with
  |true=>rw[hp,if_pos rfl]at h3;left;rw[if_pos rfl,h3]
  |false=>
   rw[hp,if_neg (by simp)]at h3
   right;exact⟨_,if_neg (by simp),⟨j+1,_,rfl,by omega,by omega,by rw[fm];exact h2,h3⟩,rfl,by simp only[Int.toNat_natCast];omega⟩
 ·have:j=b:=by omega
  subst this;rw[if_neg hjb]at h3;left;rw[hx q h2,← h3]
theorem rY{σ τ:Type}{X o:Option (σ⊕τ)}{A:τ→Prop}{B:σ→Prop}(h:X=o)(h2:(∃t,o=some (.inr t)∧A t)∨∃s',o=some (.inl s')∧B s'):(∃t,X=some (.inr t)∧A t)∨∃s',X=some (.inl s')∧B s':=h▸h2
theorem partialIns_succ(a b s i:Nat)(d:Array Int):partialIns ltInt a b (s+1) i d=
 (if scanSorted ltInt d b i=b then(d,true)else if b - a<50 then(d,false)else
  partialIns ltInt a b s (scanSorted ltInt d b i)
   (if b - scanSorted ltInt d b i≥2 then shiftUp ltInt b (scanSorted ltInt d b i+1) (if scanSorted ltInt d b i - a≥2 then shiftDown ltInt (scanSorted ltInt d b i - 1) (swp d (scanSorted ltInt d b i) (scanSorted ltInt d b i - 1))else swp d (scanSorted ltInt d b i) (scanSorted ltInt d b i - 1))
    else(if scanSorted ltInt d b i - a≥2 then shiftDown ltInt (scanSorted ltInt d b i - 1) (swp d (scanSorted ltInt d b i) (scanSorted ltInt d b i - 1))else swp d (scanSorted ltInt d b i) (scanSorted ltInt d b i - 1)))):=rfl
theorem HE(N:Nat)(d:Array Int)(a b:Nat)(hb:b≤d.size)(hab:a<b)(hs:d.size<1000000000000)(hN:d.size+8<N):
 dx.S N (d.toList,d.size,(a:Int),(b:Int))=some ((partialInsertionSort ltInt d a b).2,(partialInsertionSort ltInt d a b).1.toList):=by
 show(gy d.toList d.size (a:Int) (b:Int)).run N=_;simp only[gy,G.run,aO,if_true,fS,iN,jC,ya,bJ (x:=(a:Int)+1) (n:=a+1) (by omega) (by omega),bJ (x:=(b:Int) - (a:Int)) (n:=b - a) (by omega) (by omega)]
 have hR:partialInsertionSort ltInt d a b=partialIns ltInt a b 5 (a+1) d:=rfl;rw[hR];generalize hn:d.size=n at*;refine uW (I:=fun s=>∃(i j:Nat) (q:Array Int),s=((i:Int),(j:Int),q.toList)∧a+1≤i∧i≤b∧j≤5∧q.size=n∧partialIns ltInt a b (5 - j) i q=partialIns ltInt a b 5 (a+1) d) (m:=fun s=>(5 - s.2.1).toNat)
  (Q:=fun t=>t=(if(partialIns ltInt a b 5 (a+1) d).2=true then Sum.inl (true,(partialIns ltInt a b 5 (a+1) d).1.toList)else Sum.inr (partialIns ltInt a b 5 (a+1) d).1.toList)∨t=Sum.inl ((partialIns ltInt a b 5 (a+1) d).2,(partialIns ltInt a b 5 (a+1) d).1.toList))
  ⟨a+1,0,d,rfl,by omega,by omega,by omega,hn,rfl⟩ (by simp only;omega) (fun s hs'=>?_) (fun t ht=>?_)
 ·obtain⟨i,j,q,rfl,h1,h2,h3,h4,h5⟩:=hs';simp only
  by_cases hj:j<5
  ·rw[if_pos (by simp;omega)]
   obtain⟨s,hs5⟩:∃s,5 - j=s+1:=⟨4 - j,by omega⟩
   rw[hs5,partialIns_succ]at h5;have hg:=CY q b _ i (Nat.le_refl _) h2;refine rY (LY q b i (by omega) (by omega) (fun i' g1 g2=>?_) ?_ rfl) ?_
   ·rw[if_pos (by simp;omega)]
    simp only[if_pos (fL (show i'<n by omega)),Int.toNat_natCast,bG q (show i'<q.size by omega),Option.bind_some,bJ (x:=(i':Int) - 1) (n:=i' - 1) (by omega) (by omega),if_pos (fL (show i' - 1<n by omega)),bG q (show i' - 1<q.size by omega),bJ (x:=(i':Int)+1) (n:=i'+1) (by omega) (by omega)]
    try rfl
   ·rw[if_neg (by simp)]
    try rfl
   generalize scanSorted ltInt q b i=u at*;by_cases hub:u=b
   ·rw[if_pos hub]at h5;rw[if_pos (by simp;omega)]
    left;refine⟨_,rfl,?_⟩;right;rw[← h5];rfl
   rw[if_neg hub]at h5;rw[if_neg (by simp;omega)]
   by_cases hba:b - a<50
   ·rw[if_pos hba]at h5;rw[if_pos (by simp;omega)]
    left;refine⟨_,rfl,?_⟩;right;rw[← h5];rfl
   rw[if_neg hba]at h5;rw[if_neg (by simp;omega)]
   simp only[fS,iN,jC,Int.toNat_natCast,bJ (x:=(u:Int) - 1) (n:=u - 1) (by omega) (by omega),if_pos (fL (show u<n by omega)),bG q (show u<q.size by omega),Option.bind_some,if_pos (fL (show u - 1<n by omega)),bG q (show u - 1<q.size by omega),bJ (x:=(u:Int)+1) (n:=u+1) (by omega) (by omega),bJ (x:=(u:Int) - (a:Int)) (n:=u - a) (by omega) (by omega),bJ (x:=(b:Int) - (u:Int)) (n:=b - u) (by omega) (by omega),bJ (x:=(j:Int)+1) (n:=j+1) (by omega) (by omega)]
   rw[jt,bG _ (by simp;omega)]
   simp only[Option.bind_some,← jt,mJ];have hz:(swp q u (u - 1)).size=n:=by rw[fm];exact h4
   generalize swp q u (u - 1)=e at*;by_cases hua:u - a≥2
   ·rw[if_pos hua]at h5;rw[if_pos (by simp;omega)]
    refine rY (HD n (u - 1) e hz (by omega) (fun q' g1=>?_) (fun j' q' g1 g2=>?_) rfl) ?_
    ·rw[if_neg (by simp)]
     try rfl
    ·rw[if_pos (by simp;omega)]
     simp only[if_pos (fL (show j'+1<n by omega)),Int.toNat_natCast,bG q' (show j'+1<q'.size by omega),Option.bind_some,bJ (x:=((j'+1:Nat):Int) - 1) (n:=j') (by omega) (by omega),if_pos (fL (show j'<n by omega)),bG q' (show j'<q'.size by omega)]
     rw[jt,bG _ (by simp;omega)]
     simp only[Option.bind_some,← jt,mJ]
     try rfl
    have hz2:(shiftDown ltInt (u - 1) e).size=n:=by rw[BT];exact hz
    generalize shiftDown ltInt (u - 1) e=e3 at*;by_cases hbu:b - u≥2
    ·rw[if_pos hbu]at h5;rw[if_pos (by simp;omega)]
     refine rY (DZ n b (u+1) e3 hz2 (by omega) (by omega) (fun q' g1=>?_) (fun j' q' g1 g2 g3=>?_) rfl) ?_
     ·rw[if_neg (by simp)]
      try rfl
     ·rw[if_pos (by simp;omega)]
      simp only[if_pos (fL (show j'<n by omega)),Int.toNat_natCast,bG q' (show j'<q'.size by omega),Option.bind_some,bJ (x:=(j':Int) - 1) (n:=j' - 1) (by omega) (by omega),if_pos (fL (show j' - 1<n by omega)),bG q' (show j' - 1<q'.size by omega),bJ (x:=(j':Int)+1) (n:=j'+1) (by omega) (by omega)]
      rw[jt,bG _ (by simp;omega)]
      simp only[Option.bind_some,← jt,mJ]
      try rfl
     right;exact⟨_,rfl,⟨u,j+1,_,rfl,by omega,by omega,by omega,by rw[Aj b _ _ _ (Nat.le_refl _)];exact hz2,by rw[show 5 - (j+1)=s by omega];exact h5⟩,by simp only;omega⟩
    ·rw[if_neg hbu]at h5;rw[if_neg (by simp;omega)]
     right;exact⟨_,rfl,⟨u,j+1,_,rfl,by omega,by omega,by omega,hz2,by rw[show 5 - (j+1)=s by omega];exact h5⟩,by simp only;omega⟩
   ·rw[if_neg hua]at h5;rw[if_neg (by simp;omega)]
    by_cases hbu:b - u≥2
    ·rw[if_pos hbu]at h5;rw[if_pos (by simp;omega)]
     refine rY (DZ n b (u+1) e hz (by omega) (by omega) (fun q' g1=>?_) (fun j' q' g1 g2 g3=>?_) rfl) ?_
     ·rw[if_neg (by simp)]
      try rfl
     ·rw[if_pos (by simp;omega)]
      simp only[if_pos (fL (show j'<n by omega)),Int.toNat_natCast,bG q' (show j'<q'.size by omega),Option.bind_some,bJ (x:=(j':Int) - 1) (n:=j' - 1) (by omega) (by omega),if_pos (fL (show j' - 1<n by omega)),bG q' (show j' - 1<q'.size by omega),bJ (x:=(j':Int)+1) (n:=j'+1) (by omega) (by omega)]
      rw[jt,bG _ (by simp;omega)]
      simp only[Option.bind_some,← jt,mJ]
      try rfl
     right;exact⟨_,rfl,⟨u,j+1,_,rfl,by omega,by omega,by omega,by rw[Aj b _ _ _ (Nat.le_refl _)];exact hz,by rw[show 5 - (j+1)=s by omega];exact h5⟩,by simp only;omega⟩
    ·rw[if_neg hbu]at h5;rw[if_neg (by simp;omega)]
     right;exact⟨_,rfl,⟨u,j+1,_,rfl,by omega,by omega,by omega,hz,by rw[show 5 - (j+1)=s by omega];exact h5⟩,by simp only;omega⟩
  ·have:j=5:=by omega
   subst this;rw[if_neg (by simp)]
   left;refine⟨_,rfl,?_⟩;left;rw[← h5];rfl
 ·rcases ht with rfl |rfl
  ·cases hc:(partialIns ltInt a b 5 (a+1) d).2 with
   |true=>simp only[if_true];rfl
   |false=>
    simp
    rfl
  ·rfl
end Go.L
end
section
namespace Go.L
open Go.AM Go.Sort
theorem TF(d:Array Int){i:Nat}(h:i<d.size):gv d.toList (i:Int)=some d[i]! :=by rw[bN,bG d h]
theorem FE{N:Nat}(d:Array Int)(a b s:Nat)(ha:a<d.size)(hb:b<d.size)(hs:s<1000){β:Type}(k:eO.sh.El→Option β):
 (eO.S N ((s:Int),d.toList,(a:Int),(b:Int))).bind k=k (((order2 ltInt d a b s).1:Int),((order2 ltInt d a b s).2.1:Int),((order2 ltInt d a b s).2.2:Int)):=by
 have:eO.S N ((s:Int),d.toList,(a:Int),(b:Int))=some (((order2 ltInt d a b s).1:Int),((order2 ltInt d a b s).2.1:Int),((order2 ltInt d a b s).2.2:Int)):=by
  show(kC (s:Int) d.toList (a:Int) (b:Int)).run N=_;simp only[kC,G.run,aO,if_true,cw,TF d ha,TF d hb,Option.bind_some,ya,bJ (x:=(s:Int)+1) (n:=s+1) (by omega) (by omega)]
  unfold order2;cases ltInt d[b]! d[a]! <;>simp<;>rfl
 rw[this];rfl
theorem rZ(d:Array Int)(a b s:Nat):((order2 ltInt d a b s).1=a∧(order2 ltInt d a b s).2.1=b)∨((order2 ltInt d a b s).1=b∧(order2 ltInt d a b s).2.1=a):=by
 unfold order2;split<;>simp
theorem N8{N:Nat}(d:Array Int)(a b c s:Nat)(ha:a<d.size)(hb:b<d.size)(hc:c<d.size)(hs:s<900):
 eP.S N ((s:Int),d.toList,(a:Int),(b:Int),(c:Int))=some (((median ltInt d a b c s).1:Int),((median ltInt d a b c s).2:Int)):=by
 show(kD (s:Int) d.toList (a:Int) (b:Int) (c:Int)).run N=_;simp only[kD,G.run,aO,if_true];unfold median;rw[FE d a b s ha hb (by omega)]
 have c1:=order2_count ltInt d a b s;have r1:=rZ d a b s;generalize order2 ltInt d a b s=o1 at*;simp only
 rw[FE d o1.2.1 c o1.2.2 (by omega) hc (by omega)]
 have c2:=order2_count ltInt d o1.2.1 c o1.2.2;have r2:=rZ d o1.2.1 c o1.2.2;generalize order2 ltInt d o1.2.1 c o1.2.2=o2 at*;simp only
 rw[FE d o1.1 o2.1 o2.2.2 (by omega) (by omega) (by omega)]
 rfl
theorem FF{N:Nat}(d:Array Int)(a b c s:Nat)(ha:a<d.size)(hb:b<d.size)(hc:c<d.size)(hs:s<900){β:Type}(k:eP.sh.El→Option β):
 (eP.S N ((s:Int),d.toList,(a:Int),(b:Int),(c:Int))).bind k=k (((median ltInt d a b c s).1:Int),((median ltInt d a b c s).2:Int)):=by
 rw[N8 d a b c s ha hb hc hs];rfl
theorem Ak(d:Array Int)(a b c s:Nat):(median ltInt d a b c s).1=a∨(median ltInt d a b c s).1=b∨(median ltInt d a b c s).1=c:=by
 unfold median;simp only
 have r1:=rZ d a b s;generalize order2 ltInt d a b s=o1 at*;have r2:=rZ d o1.2.1 c o1.2.2;generalize order2 ltInt d o1.2.1 c o1.2.2=o2 at*;have r3:=rZ d o1.1 o2.1 o2.2.2;generalize order2 ltInt d o1.1 o2.1 o2.2.2=o3 at*;omega
theorem Bl{N:Nat}(d:Array Int)(a s:Nat)(ha:a+1<d.size)(h1:1≤a)(hs:s<900)(hz:d.size<1000000000000){β:Type}(k:dw.sh.El→Option β):
 (dw.S N ((s:Int),d.toList,(a:Int))).bind k=k (((medianAdjacent ltInt d a s).1:Int),((medianAdjacent ltInt d a s).2:Int)):=by
 have:dw.S N ((s:Int),d.toList,(a:Int))=some (((medianAdjacent ltInt d a s).1:Int),((medianAdjacent ltInt d a s).2:Int)):=by
  show(iq (s:Int) d.toList (a:Int)).run N=_;simp only[iq,G.run,aO,if_true,bJ (x:=(a:Int) - 1) (n:=a - 1) (by omega) (by omega),bJ (x:=(a:Int)+1) (n:=a+1) (by omega) (by omega)]
  rw[FF d (a - 1) a (a+1) s (by omega) (by omega) (by omega) hs]
  rfl
 rw[this];rfl
theorem TG(s:Nat):(if((s:Int)==0)=true then(1:Int)else if((s:Int)==12)=true then 2 else 0)=hintCode (hintOf s):=by
 unfold hintOf;by_cases h0:s=0
 ·subst h0;rfl
 ·by_cases h12:s=12
  ·subst h12;rfl
  ·rw[if_neg (by simp;omega),if_neg (by simp;omega),if_neg h0,if_neg h12];rfl
theorem PJ{β:Type}(s:Nat)(x:Int)(F:Int×Int→β):(if((s:Int)==0)=true then F (x,(1:Int))else if((s:Int)==12)=true then F (x,2)else F (x,0))=F (x,hintCode (hintOf s)):=by
 rw[← TG];split
 ·rfl
 ·split<;>rfl
theorem G1(N:Nat)(d:Array Int)(a b:Nat)(hb:b≤d.size)(hab:a<b)(hs:d.size<1000000000000):
 iR.S N (d.toList,(a:Int),(b:Int))=some (((choosePivot ltInt d a b).1:Int),hintCode (choosePivot ltInt d a b).2):=by
 show(iQ d.toList (a:Int) (b:Int)).run N=_;have q4:(b - a) / 4≤b - a:=Nat.div_le_self _ _;have t4:((b - a:Nat):Int).tdiv 4=(((b - a) / 4:Nat):Int):=rfl;simp only[iQ,G.run,aO,if_true,bJ (x:=(b:Int) - (a:Int)) (n:=b - a) (by omega) (by omega),t4]
 simp only[bJ (x:=(((b - a) / 4:Nat):Int)) (n:=(b - a) / 4) rfl (by omega)]
 simp only[bJ (x:=(((b - a) / 4:Nat):Int)*1) (n:=(b - a) / 4*1) (by omega) (by omega),bJ (x:=(((b - a) / 4:Nat):Int)*2) (n:=(b - a) / 4*2) (by omega) (by omega),bJ (x:=(((b - a) / 4:Nat):Int)*3) (n:=(b - a) / 4*3) (by omega) (by omega)]
 simp only[bJ (x:=(a:Int)+((((b - a) / 4*1):Nat):Int)) (n:=a+(b - a) / 4*1) (by omega) (by omega),bJ (x:=(a:Int)+((((b - a) / 4*2):Nat):Int)) (n:=a+(b - a) / 4*2) (by omega) (by omega),bJ (x:=(a:Int)+((((b - a) / 4*3):Nat):Int)) (n:=a+(b - a) / 4*3) (by omega) (by omega)]
 rw[choosePivot_eq];unfold rawPivot;by_cases h8:b - a≥8
 ·rw[if_pos (by simp;omega),if_pos h8]
  by_cases h50:b - a≥50
  ·rw[if_pos (by simp;omega),if_pos h50]
   rw[show(0:Int)=((0:Nat):Int)from rfl,Bl d (a+(b - a) / 4*1) 0 (by omega) (by omega) (by omega) hs]
   have k1:=medianAdjacent_count ltInt d (a+(b - a) / 4*1) 0;have r1:=Ak d (a+(b - a) / 4*1 - 1) (a+(b - a) / 4*1) (a+(b - a) / 4*1+1) 0;rw[show median ltInt d (a+(b - a) / 4*1 - 1) (a+(b - a) / 4*1) (a+(b - a) / 4*1+1) 0=medianAdjacent ltInt d (a+(b - a) / 4*1) 0 from rfl]at r1;generalize medianAdjacent ltInt d (a+(b - a) / 4*1) 0=m1 at*;simp only
   rw[Bl d (a+(b - a) / 4*2) m1.2 (by omega) (by omega) (by omega) hs]
   have k2:=medianAdjacent_count ltInt d (a+(b - a) / 4*2) m1.2;have r2:=Ak d (a+(b - a) / 4*2 - 1) (a+(b - a) / 4*2) (a+(b - a) / 4*2+1) m1.2;rw[show median ltInt d (a+(b - a) / 4*2 - 1) (a+(b - a) / 4*2) (a+(b - a) / 4*2+1) m1.2=medianAdjacent ltInt d (a+(b - a) / 4*2) m1.2 from rfl]at r2;generalize medianAdjacent ltInt d (a+(b - a) / 4*2) m1.2=m2 at*;simp only
   rw[Bl d (a+(b - a) / 4*3) m2.2 (by omega) (by omega) (by omega) hs]
   have k3:=medianAdjacent_count ltInt d (a+(b - a) / 4*3) m2.2;have r3:=Ak d (a+(b - a) / 4*3 - 1) (a+(b - a) / 4*3) (a+(b - a) / 4*3+1) m2.2;rw[show median ltInt d (a+(b - a) / 4*3 - 1) (a+(b - a) / 4*3) (a+(b - a) / 4*3+1) m2.2=medianAdjacent ltInt d (a+(b - a) / 4*3) m2.2 from rfl]at r3;generalize medianAdjacent ltInt d (a+(b - a) / 4*3) m2.2=m3 at*;simp only
   rw[FF d m1.1 m2.1 m3.1 m3.2 (by omega) (by omega) (by omega) (by omega)]
   exact PJ _ _ some
  ·rw[if_neg (by simp;omega),if_neg h50]
   rw[show(0:Int)=((0:Nat):Int)from rfl,FF d _ _ _ 0 (by omega) (by omega) (by omega) (by omega)]
   exact PJ _ _ some
 ·rw[if_neg (by simp;omega),if_neg h8]
  rfl
end Go.L
end
section
namespace Go.L
open Go.AM Go.Sort
abbrev len8:ByteArray:=⟨⟨[0,1,2,2,3,3,3,3,4,4,4,4,4,4,4,4,5,5,5,5,5,5,5,5,5,5,5,5,5,5,5,5,6,6,6,6,6,6,6,6,6,6,6,6,6,6,6,6,6,6,6,6,6,6,6,6,6,6,6,6,6,6,6,6,7,7,7,7,7,7,7,7,7,7,7,7,7,7,7,7,7,7,7,7,7,7,7,7,7,7,7,7,7,7,7,7,7,7,7,7,7,7,7,7,7,7,7,7,7,7,7,7,7,7,7,7,7,7,7,7,7,7,7,7,7,7,7,7,8,8,8,8,8,8,8,8,8,8,8,8,8,8,8,8,8,8,8,8,8,8,8,8,8,8,8,8,8,8,8,8,8,8,8,8,8,8,8,8,8,8,8,8,8,8,8,8,8,8,8,8,8,8,8,8,8,8,8,8,8,8,8,8,8,8,8,8,8,8,8,8,8,8,8,8,8,8,8,8,8,8,8,8,8,8,8,8,8,8,8,8,8,8,8,8,8,8,8,8,8,8,8,8,8,8,8,8,8,8,8,8,8,8,8,8,8,8,8,8,8,8,8,8,8,8,8,8]⟩⟩
theorem Ro:(List.range 256).all (fun v=>decide ((len8[v]?).map (fun b=>(b.toNat:Int))=some ((bitsLen v:Nat):Int)))=true:=by kernel_rfl
theorem TH(v:Nat)(h:v<256):(len8[v]?).map (fun b=>(b.toNat:Int))=some ((bitsLen v:Nat):Int):=
 of_decide_eq_true (List.all_eq_true.1 Ro v (List.mem_range.2 h))
theorem yb(x k:Nat)(h:2 ^ k≤x):bitsLen x=k+bitsLen (x / 2 ^ k):=by
 have i:∀j,bitsLen x≤j+k↔bitsLen (x / 2 ^ k)≤j:=fun j=>by
  rw[bitsLen_le_iff,bitsLen_le_iff,Nat.pow_add,Nat.div_lt_iff_lt_mul (Nat.two_pow_pos k)]
 have a:¬bitsLen x≤k:=by rw[bitsLen_le_iff];omega
 have h1:=(i (bitsLen (x / 2 ^ k))).2 (Nat.le_refl _);have h2:=(i (bitsLen x - k)).1 (by omega)
 omega
theorem AP(v:Nat)(K:Int)(kk m:Nat)(hK:K=(kk:Int))(hk:kk≤56)(hv:v<256)(he:bitsLen m=kk+bitsLen v):
 ((xq len8 (IntKind.wrap .u8 (v:Int))).run.bind fun x2=>some (IntKind.wrap .i64 (K+IntKind.wrap .i64 x2)))=some ((bitsLen m:Nat):Int):=by
 have hw:IntKind.wrap .u8 (v:Int)=(v:Int):=by rw[IntKind.wrap_u8];omega
 have hb:bitsLen v≤8:=(bitsLen_le_iff v 8).2 (by omega)
 have hr:(xq len8 (v:Int)).run=some ((bitsLen v:Nat):Int):=by
  show(if 0≤(v:Int)then(len8[(v:Int).toNat]?).map (fun b=>(b.toNat:Int))else none)=_
  rw[if_pos (by omega),Int.toNat_natCast,TH v hv]
 rw[hw,hr,Option.bind_some,hK,wrap_i64 (x:=((bitsLen v:Nat):Int)) (by omega) (by omega),wrap_i64 (by omega) (by omega),he]
 simp
theorem UJ(a:Nat):Int.fdiv (a:Int) ((2:Int) ^ (@Min.min Nat instMinNat (Int.toNat (32:Int)) (IntKind.bits .u64)))=((a / 2 ^ 32:Nat):Int):=by
 show Int.fdiv (a:Int) ((2 ^ 32:Nat):Int)=_;rw[Int.fdiv_eq_ediv_of_nonneg _ (by omega)];rfl
theorem UK(a:Nat):Int.fdiv (a:Int) ((2:Int) ^ (@Min.min Nat instMinNat (Int.toNat (16:Int)) (IntKind.bits .u64)))=((a / 2 ^ 16:Nat):Int):=by
 show Int.fdiv (a:Int) ((2 ^ 16:Nat):Int)=_;rw[Int.fdiv_eq_ediv_of_nonneg _ (by omega)];rfl
theorem U1(a:Nat):Int.fdiv (a:Int) ((2:Int) ^ (@Min.min Nat instMinNat (Int.toNat (8:Int)) (IntKind.bits .u64)))=((a / 2 ^ 8:Nat):Int):=by
 show Int.fdiv (a:Int) ((2 ^ 8:Nat):Int)=_;rw[Int.fdiv_eq_ediv_of_nonneg _ (by omega)];rfl
theorem SH{n:Nat}(m:Nat)(h:m<2 ^ 64):yG.S n (m:Int)=some ((bitsLen m:Nat):Int):=by
 show(th (m:Int)).run n=_;have b32:2 ^ 32≤m→bitsLen m=32+bitsLen (m / 2 ^ 32):=yb m 32;simp only[th,G.run,aO,if_true,UJ,UK,U1,decide_eq_true_eq];split
 ·rename_i c1;have e1:=yb m 32 (by omega)
  split
  ·rename_i c2;have e2:=yb (m / 2 ^ 32) 16 (by omega)
   split
   ·rename_i c3;have e3:=yb (m / 2 ^ 32 / 2 ^ 16) 8 (by omega)
    exact AP _ _ 56 m (by decide) (by omega) (by omega) (by omega)
   ·rename_i c3;exact AP _ _ 48 m (by decide) (by omega) (by omega) (by omega)
  ·rename_i c2;split
   ·rename_i c3;have e3:=yb (m / 2 ^ 32) 8 (by omega)
    exact AP _ _ 40 m (by decide) (by omega) (by omega) (by omega)
   ·rename_i c3;exact AP _ _ 32 m (by decide) (by omega) (by omega) (by omega)
 ·rename_i c1;split
  ·rename_i c2;have e2:=yb m 16 (by omega)
   split
   ·rename_i c3;have e3:=yb (m / 2 ^ 16) 8 (by omega)
    exact AP _ _ 24 m (by decide) (by omega) (by omega) (by omega)
   ·rename_i c3;exact AP _ _ 16 m (by decide) (by omega) (by omega) (by omega)
  ·rename_i c2;split
   ·rename_i c3;have e3:=yb m 8 (by omega)
    exact AP _ _ 8 m (by decide) (by omega) (by omega) (by omega)
   ·rename_i c3;exact AP _ _ 0 m (by decide) (by omega) (by omega) (by omega)
theorem TI{n:Nat}(x:Int)(h0:0≤x)(h1:x<18446744073709551616):nQ.S n x=some ((bitsLen x.toNat:Nat):Int):=by
 obtain⟨m,rfl⟩:∃m:Nat,x=m:=⟨x.toNat,by omega⟩
 show(vz (m:Int)).run n=_;simp only[vz,G.run,aO,if_true];rw[SH m (by omega),Int.toNat_natCast]
 rfl
end Go.L
end
section
namespace Go.L
open Go.AM Go.Sort
theorem Mt{n:Nat}(x:Nat)(h1:x<18446744073709551616){β:Type}(k:nQ.sh.El→Option β):(nQ.S n (x:Int)).bind k=k ((bitsLen x:Nat):Int):=by
 rw[TI (x:Int) (by omega) (by omega)];rfl
theorem PL{β:Type}(k1 k2:Go.IntKind)(a b:Int)(k:Unit→Option β):(Du k1 k2 a b).run.bind k=if decide (0≤b)=true then k ()else none:=by
 unfold Du J3;simp only
 split<;>simp_all
theorem K6{n:Nat}(h:n<18446744073709551616):IntKind.wrap .u64 (n:Int)=(n:Int):=by
 rw[IntKind.wrap_u64];omega
theorem N9{x:Int}{n:Nat}(h:x=(n:Int))(hn:n<18446744073709551616):IntKind.wrap .u64 x=(n:Int):=by rw[h];exact K6 hn
theorem TJ{n:Nat}(y:Int)(x:Nat)(hy:y=(x:Int))(h1:0<x)(h2:x<1000000000000):kH.S n y=some ((1<<<bitsLen x:Nat):Int):=by
 show(ny y).run n=_;have hp:=two_pow_bitsLen_le h1;have hl:bitsLen x≤64:=(bitsLen_le_iff x 64).2 (by omega)
 simp only[ny,G.run,aO,if_true,N9 (x:=y) (n:=x) hy (by omega),Mt x (by omega),PL]
 rw[if_pos (by simp),Int.toNat_natCast,Nat.one_shiftLeft]
 rw[show Min.min (bitsLen x) (IntKind.bits .u64)=bitsLen x from Nat.min_eq_left hl];rw[N9 (n:=2 ^ bitsLen x) (by simp) (by omega)]
 rfl
theorem TL{n:Nat}(x:Nat)(h1:0<x)(h2:x<1000000000000){β:Type}(k:kH.sh.El→Option β):(kH.S n (x:Int)).bind k=k ((1<<<bitsLen x:Nat):Int):=by
 rw[TJ (x:Int) x rfl h1 h2];rfl
theorem Oa(a b:Nat)(ha:a<18446744073709551616)(hb:b<18446744073709551616):
 IntKind.wrap .u64 (((@BitVec.toNat (IntKind.bits .u64) ((BitVec.ofInt (IntKind.bits .u64) (a:Int)) ^^^ (BitVec.ofInt (IntKind.bits .u64) (b:Int)))):Nat):Int)=((a ^^^ b:Nat):Int):=by
 have e:(@BitVec.toNat (IntKind.bits .u64) ((BitVec.ofInt (IntKind.bits .u64) (a:Int)) ^^^ (BitVec.ofInt (IntKind.bits .u64) (b:Int))))=a ^^^ b:=by
  show(BitVec.ofInt 64 (a:Int) ^^^ BitVec.ofInt 64 (b:Int)).toNat=_;rw[BitVec.toNat_xor,BitVec.ofInt_natCast,BitVec.ofInt_natCast,BitVec.toNat_ofNat,BitVec.toNat_ofNat,Nat.mod_eq_of_lt (by omega),Nat.mod_eq_of_lt (by omega)]
 rw[e];exact K6 (by have:=Nat.xor_lt_two_pow (n:=64) (x:=a) (y:=b) (by omega) (by omega);omega)
theorem Uc(a b:Nat)(ha:a<18446744073709551616)(hb:b<18446744073709551616):
 IntKind.wrap .u64 (((@BitVec.toNat (IntKind.bits .u64) ((BitVec.ofInt (IntKind.bits .u64) (a:Int))&&& (BitVec.ofInt (IntKind.bits .u64) (b:Int)))):Nat):Int)=((a&&& b:Nat):Int):=by
 have e:(@BitVec.toNat (IntKind.bits .u64) ((BitVec.ofInt (IntKind.bits .u64) (a:Int))&&& (BitVec.ofInt (IntKind.bits .u64) (b:Int))))=a&&& b:=by
  show(BitVec.ofInt 64 (a:Int)&&& BitVec.ofInt 64 (b:Int)).toNat=_;rw[BitVec.toNat_and,BitVec.ofInt_natCast,BitVec.ofInt_natCast,BitVec.toNat_ofNat,BitVec.toNat_ofNat,Nat.mod_eq_of_lt (by omega),Nat.mod_eq_of_lt (by omega)]
 rw[e];exact K6 (Nat.lt_of_le_of_lt Nat.and_le_left ha)
theorem Ud{n:Nat}(r:UInt64){β:Type}(k:lg.sh.El→Option β):(lg.S n (r.toNat:Int)).bind k=k (((xorNext r).toNat:Int),((xorNext r).toNat:Int)):=by
 have:lg.S n (r.toNat:Int)=some (((xorNext r).toNat:Int),((xorNext r).toNat:Int)):=by
  show(ou (r.toNat:Int)).run n=_;have hr:r.toNat<18446744073709551616:=r.toNat_lt;rw[xorNext_toNat];unfold xorNextN;simp only
  generalize r.toNat=x at*;have p64:(18446744073709551616:Nat)=2 ^ 64:=by decide
  have m13:(2:Int) ^ (@Min.min Nat instMinNat (Int.toNat (13:Int)) (IntKind.bits .u64))=8192:=rfl;have m7:(2:Int) ^ (@Min.min Nat instMinNat (Int.toNat (7:Int)) (IntKind.bits .u64))=128:=rfl;have m17:(2:Int) ^ (@Min.min Nat instMinNat (Int.toNat (17:Int)) (IntKind.bits .u64))=131072:=rfl;simp only[ou,G.run,aO,if_true,m13,m7,m17];have w1:IntKind.wrap .u64 ((x:Int)*8192)=((x*8192 % 18446744073709551616:Nat):Int):=by rw[IntKind.wrap_u64];omega
  rw[w1,Oa x _ hr (by omega)]
  have ha:x ^^^ (x*8192 % 18446744073709551616)<18446744073709551616:=by rw[p64];exact Nat.xor_lt_two_pow (by omega) (by omega)
  generalize x ^^^ (x*8192 % 18446744073709551616)=A at*;have w2:Int.fdiv (A:Int) 128=((A / 128:Nat):Int):=by rw[Int.fdiv_eq_ediv_of_nonneg _ (by omega)];rfl
  rw[w2,Oa A _ ha (by omega)]
  have hb:A ^^^ (A / 128)<18446744073709551616:=by rw[p64];exact Nat.xor_lt_two_pow (by omega) (by omega)
  generalize A ^^^ (A / 128)=B at*;have w3:IntKind.wrap .u64 ((B:Int)*131072)=((B*131072 % 18446744073709551616:Nat):Int):=by rw[IntKind.wrap_u64];omega
  rw[w3,Oa B _ hb (by omega)]
  rfl
 rw[this];rfl
def PM(a L M i0:Nat):Nat→Nat→UInt64×Array Int→Array Int
 | 0,_,st=>st.2
 |k+1,t,st=>PM a L M i0 k (t+1) (breakStep a L M st (i0+t))
theorem G2(d:Array Int)(a b:Nat)(h8:b - a≥8):breakPatterns d a b=PM a (b - a) (1<<<bitsLen (b - a)) (a+(b - a) / 4*2 - 1) 3 0 (UInt64.ofNat (b - a),d):=by
 unfold breakPatterns;simp only
 rw[if_pos h8];rfl
theorem ED(N:Nat)(d:Array Int)(a b:Nat)(hb:b≤d.size)(hab:a≤b)(hs:d.size<1000000000000)(hN:d.size+8<N):
 fW.S N (d.toList,d.size,(a:Int),(b:Int))=some (breakPatterns d a b).toList:=by
 show(iB d.toList d.size (a:Int) (b:Int)).run N=_;have t4:((b - a:Nat):Int).tdiv 4=(((b - a) / 4:Nat):Int):=rfl;simp only[iB,G.run,aO,if_true,bJ (x:=(b:Int) - (a:Int)) (n:=b - a) (by omega) (by omega),t4]
 by_cases h8:b - a≥8
 ·rw[if_pos (by simp;omega),TL (b - a) (by omega) (by omega),G2 d a b h8]
  have q4:(b - a) / 4≤b - a:=Nat.div_le_self _ _;have hp:=two_pow_bitsLen_le (n:=b - a) (by omega)
  have hp2:=lt_two_pow_bitsLen (b - a);simp only[fS,iN,jC];simp only[bJ (x:=(((b - a) / 4:Nat):Int)) (n:=(b - a) / 4) rfl (by omega)]
  simp only[bJ (x:=(((b - a) / 4:Nat):Int)*2) (n:=(b - a) / 4*2) (by omega) (by omega)]
  simp only[bJ (x:=(a:Int)+((((b - a) / 4*2):Nat):Int)) (n:=a+(b - a) / 4*2) (by omega) (by omega)]
  simp only[bJ (x:=((a+(b - a) / 4*2:Nat):Int) - 1) (n:=a+(b - a) / 4*2 - 1) (by omega) (by omega),bJ (x:=((a+(b - a) / 4*2:Nat):Int)+1) (n:=a+(b - a) / 4*2+1) (by omega) (by omega)]
  rw[K6 (show b - a<18446744073709551616 by omega)]
  have hr0:((b - a:Nat):Int)=((UInt64.ofNat (b - a)).toNat:Int):=by
   rw[UInt64.toNat_ofNat'];omega
  rw[Nat.one_shiftLeft];generalize hM:2 ^ bitsLen (b - a)=M at*;generalize hL:b - a=L at*;generalize hi0:a+L / 4*2 - 1=i0 at*;have hc:a+L / 4*2+1=i0+2:=by omega
  rw[hc];generalize hn:d.size=n at*;generalize hR:PM a L M i0 3 0 (UInt64.ofNat L,d)=R;refine uW (I:=fun s=>∃(t:Nat) (r:UInt64) (q:Array Int),s=(((i0+t:Nat):Int),q.toList,(r.toNat:Int))∧t≤3∧q.size=n∧PM a L M i0 (3 - t) t (r,q)=R) (m:=fun s=>i0+4 - s.1.toNat)
   (Q:=fun t=>t.1=R.toList)
   ⟨0,UInt64.ofNat L,d,by rw[← hr0];rfl,by omega,hn,hR⟩ (by simp only;omega) (fun s hs'=>?_) (fun t ht=>?_)
  ·obtain⟨t,r,q,rfl,h1,h2,h3⟩:=hs';simp only
   by_cases ht:t=3
   ·subst ht;rw[if_neg (by simp)]
    left;exact⟨_,rfl,by show q.toList=_;rw[← h3];rfl⟩
   ·rw[if_pos (by simp;omega),Ud r]
    have hx:(xorNext r).toNat<18446744073709551616:=(xorNext r).toNat_lt;have ho:(xorNext r).toNat&&& (M - 1)≤M - 1:=Nat.and_le_right;simp only[N9 (x:=((M:Nat):Int) - 1) (n:=M - 1) (by omega) (by omega)]
    rw[Uc (xorNext r).toNat (M - 1) hx (by omega)]
    obtain⟨k,hk⟩:∃k,3 - t=k+1:=⟨2 - t,by omega⟩
    rw[hk,PM]at h3;unfold breakStep at h3;simp only at h3;generalize (xorNext r).toNat&&& (M - 1)=o at*;simp only[bJ (x:=((o:Nat):Int)) (n:=o) rfl (by omega)]
    by_cases hoL:o≥L
    ·rw[if_pos hoL]at h3;rw[if_pos (by simp;omega)]
     simp only[bJ (x:=(o:Int) - (L:Int)) (n:=o - L) (by omega) (by omega),bJ (x:=(a:Int)+((o - L:Nat):Int)) (n:=a+(o - L)) (by omega) (by omega)]
     simp only[if_pos (fL (show a+(o - L)<n by omega)),Int.toNat_natCast,bG q (show a+(o - L)<q.size by omega),Option.bind_some,if_pos (fL (show i0+t<n by omega)),bG q (show i0+t<q.size by omega)]
     rw[jt,bG _ (by simp;omega)]
     simp only[Option.bind_some,← jt,mJ,bJ (x:=((i0+t:Nat):Int)+1) (n:=i0+(t+1)) (by omega) (by omega)]
     right;exact⟨_,rfl,⟨t+1,xorNext r,swp q (i0+t) (a+(o - L)),rfl,by omega,by rw[fm];exact h2,by rw[show 3 - (t+1)=k by omega];exact h3⟩,by simp only[Int.toNat_natCast];omega⟩
    ·rw[if_neg hoL]at h3;rw[if_neg (by simp;omega)]
     simp only[bJ (x:=(a:Int)+(o:Int)) (n:=a+o) (by omega) (by omega)]
     simp only[if_pos (fL (show a+(o)<n by omega)),Int.toNat_natCast,bG q (show a+(o)<q.size by omega),Option.bind_some,if_pos (fL (show i0+t<n by omega)),bG q (show i0+t<q.size by omega)]
     rw[jt,bG _ (by simp;omega)]
     simp only[Option.bind_some,← jt,mJ,bJ (x:=((i0+t:Nat):Int)+1) (n:=i0+(t+1)) (by omega) (by omega)]
     right;exact⟨_,rfl,⟨t+1,xorNext r,swp q (i0+t) (a+(o)),rfl,by omega,by rw[fm];exact h2,by rw[show 3 - (t+1)=k by omega];exact h3⟩,by simp only[Int.toNat_natCast];omega⟩
  ·show some t.1=_;rw[ht]
 ·rw[if_neg (by simp;omega)]
  unfold breakPatterns;simp only
  rw[if_neg h8];rfl
end Go.L
end
section
namespace Go.L
open Go.AM Go.Sort
theorem Ue{N n a b:Nat}(e:Array Int)(he:e.size=n){β:Type}(hs:n<1000000000000)(hN:n+8<N)(hb:b≤n)(hab:a≤b)(k:fV.sh.El→Option β):(fV.S N (e.toList,n,(a:Int),(b:Int))).bind k=k (insertionSort ltInt e a b).toList:=by
 subst he;rw[Ja N e a b hb hab (by omega) (by omega)];rfl
theorem TM{N n a b:Nat}(e:Array Int)(he:e.size=n){β:Type}(hs:n<1000000000000)(hN:n+8<N)(hb:b≤n)(hab:a≤b)(k:gP.sh.El→Option β):(gP.S N (e.toList,n,(a:Int),(b:Int))).bind k=k (heapSort ltInt e a b).toList:=by
 subst he;rw[Rn N e a b hb hab (by omega) (by omega)];rfl
theorem Uf{N n a b:Nat}(e:Array Int)(he:e.size=n){β:Type}(hs:n<1000000000000)(hN:n+8<N)(hb:b≤n)(hab:a≤b)(k:fW.sh.El→Option β):(fW.S N (e.toList,n,(a:Int),(b:Int))).bind k=k (breakPatterns e a b).toList:=by
 subst he;rw[ED N e a b hb hab (by omega) (by omega)];rfl
theorem RY{N n a b:Nat}(e:Array Int)(he:e.size=n){β:Type}(hs:n<1000000000000)(hN:n+8<N)(hb:b≤n)(hab:a<b)(k:gp.sh.El→Option β):(gp.S N (e.toList,n,(a:Int),(b:Int))).bind k=k (reverseRange e a b).toList:=by
 subst he;rw[LX N e a b hb hab (by omega) (by omega)];rfl
theorem RZ{N n a b:Nat}(e:Array Int)(he:e.size=n){β:Type}(hs:n<1000000000000)(hN:n+8<N)(hb:b≤n)(hab:a<b)(k:dx.sh.El→Option β):(dx.S N (e.toList,n,(a:Int),(b:Int))).bind k=k ((partialInsertionSort ltInt e a b).2,(partialInsertionSort ltInt e a b).1.toList):=by
 subst he;rw[HE N e a b hb hab (by omega) (by omega)];rfl
theorem R1{N n a b:Nat}(e:Array Int)(he:e.size=n){β:Type}(hs:n<1000000000000)(hN:n+8<N)(hb:b≤n)(hab:a<b)(k:fZ.sh.El→Option β):(fZ.S N (e.toList,n,(a:Int),(b:Int))).bind k=k (((choosePivot ltInt e a b).1:Int),hintCode (choosePivot ltInt e a b).2,e.toList):=by
 subst he;have:fZ.S N (e.toList,e.size,(a:Int),(b:Int))=some (((choosePivot ltInt e a b).1:Int),hintCode (choosePivot ltInt e a b).2,e.toList):=by
  show rJ N (e.toList,e.size,(a:Int),(b:Int))=_;unfold rJ;rw[if_pos (by simp)]
  have:=G1 N e a b hb hab (by omega)
  simp only[this];rfl
 rw[this];rfl
theorem Ug{N n a b:Nat}(e:Array Int)(he:e.size=n){β:Type}(hs:n<1000000000000)(hN:n+8<N)(hb:b≤n){p:Nat}(hap:a≤p)(hpb:p<b)(k:fJ.sh.El→Option β):(fJ.S N (e.toList,n,(a:Int),(b:Int),(p:Int))).bind k=k (((partition ltInt e a b p).1:Int),(partition ltInt e a b p).2.1,(partition ltInt e a b p).2.2.toList):=by
 subst he;rw[Jb N e a b p hb hap hpb (by omega) (by omega)];rfl
theorem Uh{N n a b:Nat}(e:Array Int)(he:e.size=n){β:Type}(hs:n<1000000000000)(hN:n+8<N)(hb:b≤n){p:Nat}(hap:a≤p)(hpb:p<b)(k:ee.sh.El→Option β):(ee.S N (e.toList,n,(a:Int),(b:Int),(p:Int))).bind k=k (((partitionEqual ltInt e a b p).1:Int),(partitionEqual ltInt e a b p).2.toList):=by
 subst he;rw[N7 N e a b p hb hap hpb (by omega) (by omega)];rfl
abbrev Ob:=Int×Int×Int×Bool×Bool×List Int
def Next(n a b lim:Nat)(PDQ:Array Int)(o:Option (Ob⊕List Int)):Prop:=
 ∃(a2 b2:Nat) (wb2 wp2:Bool) (d4:Array Int),o=some (Sum.inl ((a2:Int),(b2:Int),(lim:Int),wb2,wp2,d4.toList))∧a2≤b2∧b2≤n∧b2 - a2<b - a∧d4.size=n∧Below ltInt a2 b2 d4∧pdq ltInt d4 a2 b2 lim wb2 wp2=PDQ
theorem Next.of{n a b lim:Nat}{PDQ:Array Int}{X o:Option (Ob⊕List Int)}(h:X=o)(h2:Next n a b lim PDQ o):Next n a b lim PDQ X:=h▸h2
theorem Mu{x y p q:Nat}(h1:q≤p)(h2:y≤x)(hp:p<1000000000000)(hx:x<1000000000000):decide (IntKind.wrap .i64 ((p:Int) - (q:Int))≥IntKind.wrap .i64 (Int.tdiv (IntKind.wrap .i64 ((x:Int) - (y:Int))) 8))=decide (p - q≥(x - y) / 8):=by
 rw[bJ (x:=(p:Int) - (q:Int)) (n:=p - q) (by omega) (by omega),bJ (x:=(x:Int) - (y:Int)) (n:=x - y) (by omega) (by omega),
  show Int.tdiv ((x - y:Nat):Int) 8=(((x - y) / 8:Nat):Int)from rfl,wrap_i64 (by omega) (by omega)]
 exact decide_eq_decide.2 ⟨fun h=>by omega,fun h=>by omega⟩
theorem sg{S:Nat→zM→Option (List Int)}{N n a b lim p:Nat}{PDQ:Array Int}(e:Array Int)(he:e.size=n)(hs:n<1000000000000)(hN:n+8<N)(hb:b≤n)(hap:a≤p)(hpb:p<b)(hB:Below ltInt a b e)
 (hS:∀(a' b':Nat) (e':Array Int),e'.size=n→a'≤b'→b'≤n→b' - a'<b - a→Below ltInt a' b' e'→S N (e'.toList,n,(a':Int),(b':Int),(lim:Int))=some (pdq ltInt e' a' b' lim true true).toList)
 (hP:(if a≤(partition ltInt e a b p).1∧(partition ltInt e a b p).1<b then
  (if(partition ltInt e a b p).1 - a<b - (partition ltInt e a b p).1 then
   pdq ltInt (pdq ltInt (partition ltInt e a b p).2.2 a (partition ltInt e a b p).1 lim true true) ((partition ltInt e a b p).1+1) b lim (decide ((partition ltInt e a b p).1 - a≥(b - a) / 8)) (partition ltInt e a b p).2.1
  else
   pdq ltInt (pdq ltInt (partition ltInt e a b p).2.2 ((partition ltInt e a b p).1+1) b lim true true) a (partition ltInt e a b p).1 lim (decide (b - (partition ltInt e a b p).1≥(b - a) / 8)) (partition ltInt e a b p).2.1)
  else(partition ltInt e a b p).2.2)=PDQ):
 Next n a b lim PDQ ((fJ.S N (e.toList,n,(a:Int),(b:Int),(p:Int))).bind fun(r:Int×Bool×List Int)=>
  if decide (IntKind.wrap .i64 (r.1 - (a:Int))<IntKind.wrap .i64 ((b:Int) - r.1))=true then
   (S N (r.2.2,n,(a:Int),r.1,(lim:Int))).bind fun(r':List Int)=>some (Sum.inl (IntKind.wrap .i64 (r.1+1),(b:Int),(lim:Int),decide (IntKind.wrap .i64 (r.1 - (a:Int))≥IntKind.wrap .i64 (Int.tdiv (IntKind.wrap .i64 ((b:Int) - (a:Int))) 8)),r.2.1,r'))
  else
   (S N (r.2.2,n,IntKind.wrap .i64 (r.1+1),(b:Int),(lim:Int))).bind fun(r':List Int)=>some (Sum.inl ((a:Int),r.1,(lim:Int),decide (IntKind.wrap .i64 ((b:Int) - r.1)≥IntKind.wrap .i64 (Int.tdiv (IntKind.wrap .i64 ((b:Int) - (a:Int))) 8)),r.2.1,r'))):=by
 refine Next.of (Ug e he hs hN hb hap hpb _) ?_;obtain⟨mid,ap,d4,hx⟩:∃mid ap d4,partition ltInt e a b p=(mid,ap,d4):=⟨(partition ltInt e a b p).1,(partition ltInt e a b p).2.1,(partition ltInt e a b p).2.2,rfl⟩;obtain⟨r1,r2,r3,r4,r5,r6,r7⟩:=round_part swo_ltInt (partition_holds ltInt) hap hpb (by omega) hB hx
 rw[hx]at hP ⊢;simp only at hP ⊢;rw[if_pos ⟨r1,r2⟩]at hP;by_cases h4:mid - a<b - mid
 ·rw[if_pos h4]at hP;rw[if_pos (by rw[bJ (x:=(mid:Int) - (a:Int)) (n:=mid - a) (by omega) (by omega),bJ (x:=(b:Int) - (mid:Int)) (n:=b - mid) (by omega) (by omega)];simp;omega)]
  obtain⟨pL,sL⟩:=pdq_sorts ltInt swo_ltInt d4 a mid lim true true (by omega) (by omega) r4
  rw[hS a mid d4 (by omega) (by omega) (by omega) (by omega) r4]
  refine⟨mid+1,b,_,ap,pdq ltInt d4 a mid lim true true,?_,by omega,by omega,by omega,by rw[pL.1];omega,(r6 _ pL sL).1,hP⟩
  show some _=_;rw[Mu (by omega) (by omega) (by omega) (by omega),bJ (x:=(mid:Int)+1) (n:=mid+1) (by omega) (by omega)]
 ·rw[if_neg h4]at hP;rw[if_neg (by rw[bJ (x:=(mid:Int) - (a:Int)) (n:=mid - a) (by omega) (by omega),bJ (x:=(b:Int) - (mid:Int)) (n:=b - mid) (by omega) (by omega)];simp;omega)]
  obtain⟨pL,sL⟩:=pdq_sorts ltInt swo_ltInt d4 (mid+1) b lim true true (by omega) (by omega) r5
  rw[bJ (x:=(mid:Int)+1) (n:=mid+1) (by omega) (by omega),hS (mid+1) b d4 (by omega) (by omega) (by omega) (by omega) r5]
  refine⟨a,mid,_,ap,pdq ltInt d4 (mid+1) b lim true true,?_,by omega,by omega,by omega,by rw[pL.1];omega,(r7 _ pL sL).1,hP⟩
  show some _=_;rw[Mu (by omega) (by omega) (by omega) (by omega)]
theorem sj{N n a b lim p:Nat}{wb wp:Bool}{PDQ KPART:Array Int}{PART:Option (Ob⊕List Int)}(e:Array Int)(he:e.size=n)(hs:n<1000000000000)(hN:n+8<N)(hb:b≤n)(hap:a≤p)(hpb:p<b)(hB:Below ltInt a b e)
 (hP:(if(decide (a>0)&& !ltInt e[a - 1]! e[p]!)=true then
  (if a<(partitionEqual ltInt e a b p).1∧(partitionEqual ltInt e a b p).1≤b then pdq ltInt (partitionEqual ltInt e a b p).2 (partitionEqual ltInt e a b p).1 b lim wb wp else(partitionEqual ltInt e a b p).2)
  else KPART)=PDQ) (hPart:KPART=PDQ→Next n a b lim PDQ PART):
 Next n a b lim PDQ (if decide ((a:Int)>0)=true then
  (if 0≤IntKind.wrap .i64 ((a:Int) - 1)∧IntKind.wrap .i64 ((a:Int) - 1)<(n:Int)then
   (e.toList[(IntKind.wrap .i64 ((a:Int) - 1)).toNat]?).bind fun x=>
    if 0≤(p:Int)∧(p:Int)<(n:Int)then
     (e.toList[((p:Nat):Int).toNat]?).bind fun y=>
      if(!ltInt x y)=true then
       (ee.S N (e.toList,n,(a:Int),(b:Int),(p:Int))).bind fun(r:Int×List Int)=>some (Sum.inl (r.1,(b:Int),(lim:Int),wb,wp,r.2))
      else PART
    else none
  else none)
  else PART):=by
 by_cases h0:a>0
 ·rw[if_pos (by simp;omega),bJ (x:=(a:Int) - 1) (n:=a - 1) (by omega) (by omega),if_pos (fL (show a - 1<n by omega)),Int.toNat_natCast,bG e (show a - 1<e.size by omega)]
  simp only[Option.bind_some];rw[if_pos (fL (show p<n by omega)),Int.toNat_natCast,bG e (show p<e.size by omega)]
  simp only[Option.bind_some];cases hc: !ltInt e[a - 1]! e[p]! with
  |false=>
   rw[hc,if_neg (by simp)]at hP
   rw[if_neg (by simp)]
   exact hPart hP
  |true=>
   rw[hc,if_pos (by simp;omega)]at hP
   rw[if_pos rfl];refine Next.of (Uh e he hs hN hb hap hpb _) ?_;obtain⟨mid,d4,hx⟩:∃mid d4,partitionEqual ltInt e a b p=(mid,d4):=⟨(partitionEqual ltInt e a b p).1,(partitionEqual ltInt e a b p).2,rfl⟩;obtain⟨r1,r2,r3,r4,_⟩:=round_eq swo_ltInt (partitionEqual_holds ltInt) h0 hap hpb (by omega) hB (by simpa using hc) hx
   rw[hx]at hP ⊢;simp only at hP ⊢;rw[if_pos ⟨r1,r2⟩]at hP;exact⟨mid,b,wb,wp,d4,rfl,r2,hb,by omega,by omega,r4,hP⟩
 ·rw[if_neg (by simp;omega)]at hP
  rw[if_neg (by simp;omega)]
  exact hPart hP
theorem uK{n a b L lim0 k0:Nat}{PDQ:Array Int}{A:List Int→Prop}{X:Option (Ob⊕List Int)}(h:Next n a b L PDQ X)(hL:L≤lim0)(hk:b - a≤k0):
 (∃t,X=some (.inr t)∧A t)∨∃s',X=some (.inl s')∧(∃(a b lim:Nat) (wb wp:Bool) (d:Array Int),s'=((a:Int),(b:Int),(lim:Int),wb,wp,d.toList)∧a≤b∧b≤n∧b - a≤k0∧lim≤lim0∧d.size=n∧Below ltInt a b d∧pdq ltInt d a b lim wb wp=PDQ)∧(s'.2.1 - s'.1).toNat<((b:Int) - (a:Int)).toNat:=by
 obtain⟨a2,b2,wb2,wp2,d4,hX,h1,h2,h3,h4,h5,h6⟩:=h;right;exact⟨_,hX,⟨a2,b2,L,wb2,wp2,d4,rfl,h1,h2,by omega,hL,h4,h5,h6⟩,by simp only;omega⟩
theorem uX:∀(M N n a b lim:Nat) (d:Array Int),d.size=n→b - a<M→n<1000000000000→n+8<N→a≤b→b≤n→lim<1000000000000→Below ltInt a b d→
 (vA M).1 N (d.toList,n,(a:Int),(b:Int),(lim:Int))=some (pdq ltInt d a b lim true true).toList
 | 0,_,_,_,_,_,_,_,h,_,_,_,_,_,_=>absurd h (Nat.not_lt_zero _)
 |M+1,N,n,a0,b0,lim0,d0,hd,hM,hs,hN,hab0,hb0,hl0,hB0=>by
  show(jZ (vA M).1 (vA M).2 d0.toList n (a0:Int) (b0:Int) (lim0:Int)).run N=_;simp only[jZ,Km,uT,Hv,G.run,aO,if_true,fS,iN,ya];refine uW (I:=fun s=>∃(a b lim:Nat) (wb wp:Bool) (d:Array Int),s=((a:Int),(b:Int),(lim:Int),wb,wp,d.toList)∧a≤b∧b≤n∧b - a≤b0 - a0∧lim≤lim0∧d.size=n∧Below ltInt a b d∧pdq ltInt d a b lim wb wp=pdq ltInt d0 a0 b0 lim0 true true) (m:=fun s=>(s.2.1 - s.1).toNat)
   (Q:=fun t=>t=(pdq ltInt d0 a0 b0 lim0 true true).toList)
   ⟨a0,b0,lim0,true,true,d0,rfl,hab0,hb0,Nat.le_refl _,Nat.le_refl _,hd,hB0,rfl⟩ (by simp only;omega) (fun s hs'=>?_) (fun t ht=>by subst ht;rfl)
  obtain⟨a,b,lim,wb,wp,d,rfl,hab,hb,hk,hlim,hds,hBel,heq⟩:=hs';simp only
  by_cases h12:b - a≤12
  ·rw[if_pos (by rw[bJ (x:=(b:Int) - (a:Int)) (n:=b - a) (by omega) (by omega)];simp;omega)]
   left;refine⟨_,Ue d hds hs hN hb hab _,?_⟩;rw[← heq,pdq_small h12]
  rw[if_neg (by rw[bJ (x:=(b:Int) - (a:Int)) (n:=b - a) (by omega) (by omega)];simp;omega)]
  by_cases hl:lim=0
  ·rw[if_pos (by subst hl;rfl)]
   left;refine⟨_,TM d hds hs hN hb hab _,?_⟩;rw[← heq,pdq_heap h12 hl]
  rw[if_neg (by simp;omega)]
  obtain⟨s1,B1,hc1,s2,B2,hpv,s3,B3⟩:=rd_facts (limit:=lim) (wb:=wb) (wp:=wp) swo_ltInt partialInsertionSort_holds reverseRange_holds (show a<b by omega) (by omega) hBel
  rw[pdq_unfold,if_neg h12,if_neg hl]at heq;have key:∀(E:Array Int) (P L:Nat),(rd ltInt d a b lim wb wp).pi.1=E→(rd ltInt d a b lim wb wp).pivot=P→(rd ltInt d a b lim wb wp).lim=L→(rd ltInt d a b lim wb wp).pi.2=false→
   E.size=n∧Below ltInt a b E∧(a≤P∧P<b)∧(if(decide (a>0)&& !ltInt E[a - 1]! E[P]!)=true then
    (if a<(partitionEqual ltInt E a b P).1∧(partitionEqual ltInt E a b P).1≤b then pdq ltInt (partitionEqual ltInt E a b P).2 (partitionEqual ltInt E a b P).1 b L wb wp else(partitionEqual ltInt E a b P).2)
   else(if a≤(partition ltInt E a b P).1∧(partition ltInt E a b P).1<b then
    (if(partition ltInt E a b P).1 - a<b - (partition ltInt E a b P).1 then
     pdq ltInt (pdq ltInt (partition ltInt E a b P).2.2 a (partition ltInt E a b P).1 L true true) ((partition ltInt E a b P).1+1) b L (decide ((partition ltInt E a b P).1 - a≥(b - a) / 8)) (partition ltInt E a b P).2.1
    else
     pdq ltInt (pdq ltInt (partition ltInt E a b P).2.2 ((partition ltInt E a b P).1+1) b L true true) a (partition ltInt E a b P).1 L (decide (b - (partition ltInt E a b P).1≥(b - a) / 8)) (partition ltInt E a b P).2.1)
    else(partition ltInt E a b P).2.2))=pdq ltInt d0 a0 b0 lim0 true true:=by
   rintro _ _ _ rfl rfl rfl hp;refine⟨by omega,B3,hpv,?_⟩
   rw[if_neg (by rw[hp];simp)]at heq
   exact heq
  cases wb with
  |false=>
   rw[if_pos (show(!false)=true from rfl)];refine rY (Uf d hds hs hN hb hab _) ?_;refine rY (R1 (breakPatterns d a b) (by rw[← hds];exact s1) hs hN hb (by omega) _) ?_
   simp only[bJ (x:=(lim:Int) - 1) (n:=lim - 1) (by omega) (by omega),bJ (x:=(b:Int) - 1) (n:=b - 1) (by omega) (by omega)]
   have c1:a≤(choosePivot ltInt (breakPatterns d a b) a b).1∧(choosePivot ltInt (breakPatterns d a b) a b).1<b:=hc1;by_cases hdec:(rd ltInt d a b lim false wp).c.2=.decreasing
   ·have hd:(choosePivot ltInt (breakPatterns d a b) a b).2=.decreasing:=hdec;obtain⟨e1,e2,_⟩:=rd_dec hdec;rw[if_pos (by rw[hd];rfl)]
    refine rY (RY (breakPatterns d a b) (by rw[← hds];exact s1) hs hN hb (by omega) _) ?_
    rw[if_neg (by simp)]
    simp only[bJ (x:=((choosePivot ltInt (breakPatterns d a b) a b).1:Int) - (a:Int)) (n:=(choosePivot ltInt (breakPatterns d a b) a b).1 - a) (by omega) (by omega),bJ (x:=((b - 1:Nat):Int) - (((choosePivot ltInt (breakPatterns d a b) a b).1 - a:Nat):Int)) (n:=b - 1 - ((choosePivot ltInt (breakPatterns d a b) a b).1 - a)) (by omega) (by omega)]
    obtain⟨k1,k2,k3,k4⟩:=key (reverseRange (breakPatterns d a b) a b) (b - 1 - ((choosePivot ltInt (breakPatterns d a b) a b).1 - a)) (lim - 1) (by rw[rd_pi_no rfl];exact e1) e2 rfl (by rw[rd_pi_no rfl])
    exact uK (L:=lim - 1) (sj (reverseRange (breakPatterns d a b) a b) k1 hs hN hb k3.1 k3.2 k2 k4 fun hk2=>sg (reverseRange (breakPatterns d a b) a b) k1 hs hN hb k3.1 k3.2 k2 (fun a' b' e' g1 g2 g3 g4 g5=>uX M N n a' b' (lim - 1) e' g1 (by omega) hs hN g2 g3 (by omega) g5) hk2) (by omega) hk
   ·have hd:(choosePivot ltInt (breakPatterns d a b) a b).2≠ .decreasing:=hdec;obtain⟨e1,e2,_⟩:=rd_not hdec;rw[if_neg (by revert hd;cases(choosePivot ltInt (breakPatterns d a b) a b).2<;>simp[hintCode])]
    rw[if_neg (by simp)]
    obtain⟨k1,k2,k3,k4⟩:=key (breakPatterns d a b) ((choosePivot ltInt (breakPatterns d a b) a b).1) (lim - 1) (by rw[rd_pi_no rfl];exact e1) e2 rfl (by rw[rd_pi_no rfl])
    exact uK (L:=lim - 1) (sj (breakPatterns d a b) k1 hs hN hb k3.1 k3.2 k2 k4 fun hk2=>sg (breakPatterns d a b) k1 hs hN hb k3.1 k3.2 k2 (fun a' b' e' g1 g2 g3 g4 g5=>uX M N n a' b' (lim - 1) e' g1 (by omega) hs hN g2 g3 (by omega) g5) hk2) (by omega) hk
  |true=>
   rw[if_neg (by simp)]
   refine rY (R1 d hds hs hN hb (by omega) _) ?_
   simp only[bJ (x:=(b:Int) - 1) (n:=b - 1) (by omega) (by omega)]
   have c1:a≤(choosePivot ltInt d a b).1∧(choosePivot ltInt d a b).1<b:=hc1;by_cases hdec:(rd ltInt d a b lim true wp).c.2=.decreasing
   ·have hd:(choosePivot ltInt d a b).2=.decreasing:=hdec;obtain⟨e1,e2,e3⟩:=rd_dec hdec;have hz:(reverseRange d a b).size=n:=by
     have:(rd ltInt d a b lim true wp).d2.size=n:=by rw[s2,hds]
     rw[e1]at this;exact this
    rw[if_pos (by rw[hd];rfl)]
    refine rY (RY d hds hs hN hb (by omega) _) ?_
    rw[if_pos trivial];simp only[bJ (x:=((choosePivot ltInt d a b).1:Int) - (a:Int)) (n:=(choosePivot ltInt d a b).1 - a) (by omega) (by omega),bJ (x:=((b - 1:Nat):Int) - (((choosePivot ltInt d a b).1 - a:Nat):Int)) (n:=b - 1 - ((choosePivot ltInt d a b).1 - a)) (by omega) (by omega)]
    cases wp with
    |true=>
     rw[if_pos (show true=true from rfl)];refine rY (RZ (reverseRange d a b) hz hs hN hb (by omega) _) ?_
     have hpi:=rd_pi_yes (lt:=ltInt) (d:=d) (a:=a) (b:=b) (limit:=lim) (wb:=true) (wp:=true) (by rw[e3];rfl)
     rw[e1]at hpi;cases hp:(partialInsertionSort ltInt (reverseRange d a b) a b).2 with
     |true=>
      rw[if_pos (show(true,(partialInsertionSort ltInt (reverseRange d a b) a b).1.toList).1=true from rfl)];left;refine⟨_,rfl,?_⟩;rw[if_pos (by rw[hpi];exact hp)]at heq
      rw[← heq,hpi];rfl
     |false=>
      rw[if_neg (by simp)]
      obtain⟨k1,k2,k3,k4⟩:=key ((partialInsertionSort ltInt (reverseRange d a b) a b).1) (b - 1 - ((choosePivot ltInt d a b).1 - a)) (lim) (by rw[hpi];rfl) e2 rfl (by rw[hpi];exact hp)
      exact uK (L:=lim) (sj ((partialInsertionSort ltInt (reverseRange d a b) a b).1) k1 hs hN hb k3.1 k3.2 k2 k4 fun hk2=>sg ((partialInsertionSort ltInt (reverseRange d a b) a b).1) k1 hs hN hb k3.1 k3.2 k2 (fun a' b' e' g1 g2 g3 g4 g5=>uX M N n a' b' (lim) e' g1 (by omega) hs hN g2 g3 (by omega) g5) hk2) (by omega) hk
    |false=>
     rw[if_neg (by simp)]
     obtain⟨k1,k2,k3,k4⟩:=key (reverseRange d a b) (b - 1 - ((choosePivot ltInt d a b).1 - a)) (lim) (by rw[rd_pi_no rfl];exact e1) e2 rfl (by rw[rd_pi_no rfl])
     exact uK (L:=lim) (sj (reverseRange d a b) k1 hs hN hb k3.1 k3.2 k2 k4 fun hk2=>sg (reverseRange d a b) k1 hs hN hb k3.1 k3.2 k2 (fun a' b' e' g1 g2 g3 g4 g5=>uX M N n a' b' (lim) e' g1 (by omega) hs hN g2 g3 (by omega) g5) hk2) (by omega) hk
   ·have hd:(choosePivot ltInt d a b).2≠ .decreasing:=hdec;obtain⟨e1,e2,e3⟩:=rd_not hdec;rw[if_neg (by revert hd;cases(choosePivot ltInt d a b).2<;>simp[hintCode])]
    rw[if_pos trivial];cases wp with
    |true=>
     rw[if_pos (show true=true from rfl)];by_cases hinc:(choosePivot ltInt d a b).2=.increasing
     ·rw[if_pos (by rw[hinc];rfl)]
      refine rY (RZ (d) hds hs hN hb (by omega) _) ?_
      have hpi:=rd_pi_yes (lt:=ltInt) (d:=d) (a:=a) (b:=b) (limit:=lim) (wb:=true) (wp:=true) (by rw[e3,show(rd ltInt d a b lim true true).c.2=.increasing from hinc];rfl)
      rw[e1]at hpi;cases hp:(partialInsertionSort ltInt (d) a b).2 with
      |true=>
       rw[if_pos (show(true,(partialInsertionSort ltInt (d) a b).1.toList).1=true from rfl)];left;refine⟨_,rfl,?_⟩;rw[if_pos (by rw[hpi];exact hp)]at heq
       rw[← heq,hpi];rfl
      |false=>
       rw[if_neg (by simp)]
       obtain⟨k1,k2,k3,k4⟩:=key ((partialInsertionSort ltInt (d) a b).1) ((choosePivot ltInt d a b).1) (lim) (by rw[hpi];rfl) e2 rfl (by rw[hpi];exact hp)
       exact uK (L:=lim) (sj ((partialInsertionSort ltInt (d) a b).1) k1 hs hN hb k3.1 k3.2 k2 k4 fun hk2=>sg ((partialInsertionSort ltInt (d) a b).1) k1 hs hN hb k3.1 k3.2 k2 (fun a' b' e' g1 g2 g3 g4 g5=>uX M N n a' b' (lim) e' g1 (by omega) hs hN g2 g3 (by omega) g5) hk2) (by omega) hk
     ·rw[if_neg (by revert hd hinc;cases(choosePivot ltInt d a b).2<;>simp[hintCode])]
      have hno:(true&&true&&decide ((rd ltInt d a b lim true true).hint=.increasing))=false:=by
       rw[e3];simp;exact hinc
      obtain⟨k1,k2,k3,k4⟩:=key (d) ((choosePivot ltInt d a b).1) (lim) (by rw[rd_pi_no hno];exact e1) e2 rfl (by rw[rd_pi_no hno])
      exact uK (L:=lim) (sj (d) k1 hs hN hb k3.1 k3.2 k2 k4 fun hk2=>sg (d) k1 hs hN hb k3.1 k3.2 k2 (fun a' b' e' g1 g2 g3 g4 g5=>uX M N n a' b' (lim) e' g1 (by omega) hs hN g2 g3 (by omega) g5) hk2) (by omega) hk
    |false=>
     rw[if_neg (by simp)]
     obtain⟨k1,k2,k3,k4⟩:=key (d) ((choosePivot ltInt d a b).1) (lim) (by rw[rd_pi_no rfl];exact e1) e2 rfl (by rw[rd_pi_no rfl])
     exact uK (L:=lim) (sj (d) k1 hs hN hb k3.1 k3.2 k2 k4 fun hk2=>sg (d) k1 hs hN hb k3.1 k3.2 k2 (fun a' b' e' g1 g2 g3 g4 g5=>uX M N n a' b' (lim) e' g1 (by omega) hs hN g2 g3 (by omega) g5) hk2) (by omega) hk
end Go.L
end
section
namespace Go.L
open Go.AM Go.Sort
theorem TN{N n:Nat}(l:List Int):gI.S N (l,n)=(lG l n).run N:=by kernel_rfl
theorem TO{N:Nat}(l:List Int)(hs:l.length<1000000000000)(hN:l.length+8<N):gI.S N (l,l.length)=some (sort ltInt l.toArray).toList:=by
 rw[TN];have hl:bitsLen l.length≤64:=(bitsLen_le_iff _ _).2 (by omega)
 simp only[lG,G.run,aO,if_true,K6 (show l.length<18446744073709551616 by omega),Mt l.length (by omega)]
 have h:=uX N N l.length 0 l.length (bitsLen l.length) l.toArray (by simp) (by omega) hs hN (by omega) (Nat.le_refl _) (by omega) (Or.inl rfl)
 rw[show nR.S N (l,l.length,(0:Int),(l.length:Int),((bitsLen l.length:Nat):Int))=some (pdq ltInt l.toArray 0 l.length (bitsLen l.length) true true).toList from h];rfl
theorem TP{N n:Nat}(l:List Int)(hn:l.length=n)(hs:n<1000000000000)(hN:n+8<N){β:Type}(k:gI.sh.El→Option β):
 (gI.S N (l,n)).bind k=k (l.mergeSort (fun x y=>decide (x≤y))):=by
 subst hn;rw[TO l hs hN,sortInt];rfl
end Go.L
end
section
namespace Go.L
open Go.Lib
theorem vT(d:Array Int):∀(m:Nat) (x:Int),x∈compactUpTo d m↔∃j,j<m∧d[j]! =x
 | 0,x=>by simp[compactUpTo]
 |m+1,x=>by
  rw[compactUpTo_succ,List.mem_append,vT d m x];by_cases hk:keeps d m=true
  ·rw[if_pos hk];constructor
   ·rintro(⟨j,h1,h2⟩ |h)
    ·exact⟨j,by omega,h2⟩
    ·exact⟨m,by omega,(List.mem_singleton.1 h).symm⟩
   ·rintro⟨j,h1,h2⟩;by_cases hj:j=m
    ·subst hj;exact .inr (by rw[h2];exact List.mem_singleton.2 rfl)
    ·exact .inl ⟨j,by omega,h2⟩
  ·rw[if_neg hk];have hk2:m≠0∧d[m]! =d[m - 1]! :=by
    unfold keeps at hk;simp only[decide_eq_true_eq,not_or,Decidable.not_not]at hk;exact hk
   constructor
   ·rintro(⟨j,h1,h2⟩ |h)
    ·exact⟨j,by omega,h2⟩
    ·cases h
   ·rintro⟨j,h1,h2⟩;by_cases hj:j=m
    ·subst hj;exact .inl ⟨j - 1,by omega,by rw[← hk2.2];exact h2⟩
    ·exact .inl ⟨j,by omega,h2⟩
theorem w9(d:Array Int)(n:Nat)(hs:∀i j:Nat,i<j→j<n→d[i]! ≤d[j]!):∀m:Nat,m≤n→(compactUpTo d m).Pairwise (fun a b=>a<b)
 | 0,_=>by simp[compactUpTo]
 |m+1,h=>by
  rw[compactUpTo_succ];by_cases hk:keeps d m=true
  ·rw[if_pos hk,List.pairwise_append];refine⟨w9 d n hs m (by omega),by simp,fun a ha b hb=>?_⟩
   obtain rfl:=List.mem_singleton.1 hb;obtain⟨j,h1,rfl⟩:=(vT d m a).1 ha;have hne:d[m]! ≠d[m - 1]! :=by
    unfold keeps at hk;simp only[decide_eq_true_eq]at hk;rcases hk with h0 |h0
    ·omega
    ·exact h0
   have h2:d[m - 1]! ≤d[m]! :=hs (m - 1) m (by omega) (by omega)
   have h3:d[j]! ≤d[m - 1]! :=by
    by_cases hj:j=m - 1
    ·subst hj;exact Int.le_refl _
    ·exact hs j (m - 1) (by omega) (by omega)
   omega
  ·rw[if_neg hk,List.append_nil];exact w9 d n hs m (by omega)
def uniq(l:List Int):List Int:=compact (l.mergeSort (fun x y=>decide (x≤y)))
theorem K7{l:List Int}{x:Int}:x∈uniq l↔x∈l:=by
 unfold uniq compact;rw[vT];rw[← List.mem_mergeSort (le:=fun x y=>decide (x≤y))]
 generalize l.mergeSort (fun x y=>decide (x≤y))=s
 constructor
 ·rintro⟨j,h1,rfl⟩;rw[getElem!_pos s.toArray j (by simpa using h1)]
  simp
 ·intro h;obtain⟨j,h1,rfl⟩:=List.getElem_of_mem h;exact⟨j,h1,by rw[getElem!_pos s.toArray j (by simpa using h1)];simp⟩
theorem E7(l:List Int):(uniq l).Pairwise (fun a b=>a<b):=by
 unfold uniq compact;have hs:=List.pairwise_mergeSort (le:=fun x y:Int=>decide (x≤y)) (fun a b c h1 h2=>by simp only[decide_eq_true_eq]at*;omega) (fun a b=>by simp only[Bool.or_eq_true,decide_eq_true_eq];omega) l
 generalize l.mergeSort (fun x y=>decide (x≤y))=s at*
 refine w9 s.toArray s.length (fun i j h1 h2=>?_) s.length (Nat.le_refl _)
 rw[getElem!_pos s.toArray i (by simp;omega),getElem!_pos s.toArray j (by simpa using h2)]
 simp only[List.getElem_toArray];have:=List.pairwise_iff_getElem.1 hs i j (by omega) h2 h1
 simpa using this
end Go.L
end
section
namespace Go.L
open Go.AM Go.Sort
theorem PN{N n:Nat}(l:List Int)(hn:l.length=n){β:Type}(k:hU.sh.El→Option β):(hU.S N (l,n)).bind k=k (Lib.compact l):=by
 have:hU.S N (l,n)=some (Lib.compact l):=by
  show zN (l,n)=_;unfold zN;rw[if_pos hn.symm]
 rw[this];rfl
theorem E8(M:Nat)(l:List (V8 Int))(hl:l.length<1000)(hN:l.length+10<M):dB.S M l=some (uniq (l.filterMap gj)):=by
 show(wO l).run M=_;simp only[wO,G.run,aO,if_true,bY,cw,TD];refine lM (I:=fun s=>∃i:Nat,s=((i:Int),(l.take i).filterMap gj)∧i≤l.length) (m:=fun s=>l.length - s.1.toNat) (F:=fun _=>l.filterMap gj) ⟨0,rfl,Nat.zero_le _⟩ (by simp;omega) (fun s hs=>?_) ?_
 ·obtain⟨i,rfl,hi⟩:=hs;by_cases he:i=l.length
  ·left;subst he;rw[if_neg (by simp)]
   simp
  ·right;have hil:i<l.length:=by omega
   have e1:gv l (i:Int)=some l[i]:=by rw[bN];exact List.getElem?_eq_getElem hil
   have e2:(l.take (i+1)).filterMap gj=(l.take i).filterMap gj++(gj l[i]).toList:=by
    rw[List.take_add_one,List.filterMap_append,List.getElem?_eq_getElem hil];cases h:gj l[i]<;>simp[h]
   have hroom:((l.take i).filterMap gj).length≤i:=Nat.le_trans (List.length_filterMap_le _ _) (by simp;omega)
   refine⟨(((i+1:Nat):Int),(l.take (i+1)).filterMap gj),?_,⟨i+1,rfl,by omega⟩,rfl,by simp only[Int.toNat_natCast];omega⟩
   rw[if_pos (by simp;omega)]
   simp only[e1,Option.bind_some,xN,Ub (show i<1000000 by omega)]
   rw[e2];by_cases hk:oG l[i]=1
   ·rw[if_pos (by simpa using hk)]
    by_cases ha:kg (kg 0 l[i].a2) l[i].a3=65000
    ·have ht:gj l[i]=some (IntKind.wrap .u32 (kg (kg (kg (kg 0 l[i].a4) l[i].a5) l[i].a6) l[i].a7)):=by unfold gj;rw[if_pos ⟨hk,ha⟩]
     rw[ht];refine(if_pos (show(kg (kg 0 l[i].a2) l[i].a3==65000)=true by simpa using ha)).trans ?_
     refine(if_pos ⟨trivial,by simp[roomy];omega⟩).trans ?_
     rfl
    ·have ht:gj l[i]=none:=by unfold gj;rw[if_neg (fun q=>ha q.2)]
     rw[ht];refine(if_neg (show ¬(kg (kg 0 l[i].a2) l[i].a3==65000)=true by simpa using ha)).trans ?_
     simp
   ·rw[if_neg (by simpa using hk),Rg hk]
    simp
 ·have hT:(l.filterMap gj).length≤l.length:=List.length_filterMap_le _ _;refine(TP (l.filterMap gj) rfl (by omega) (by omega) _).trans ?_
  refine(PN _ (by simp) _).trans ?_
  exact if_pos (by simp[k6])
end Go.L
end
