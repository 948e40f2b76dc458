/- What the reference of layer 19 answers. No conditions. -/
import Derived.Test.YtpgpmlaafigpaaaGreatDoorPEu
import Derived.Test.YtpgpmlaafigpaaaGreatDoorWPr
import Derived.Test.YtpgpmlaafigpaaaGreatDoorPCh
namespace Go.L
open Go.AM Go.Sort
set_option maxRecDepth 100000
set_option linter.unusedVariables false
set_option linter.unusedSimpArgs false
section
variable {β:Type} (n:Nat)
theorem JX(p:Prefix)(k:oq.sh.El→Option β):(oq.S n p).bind k=k (fD p):=by
 have:oq.S n p=some (fD p):=by
  show(yK p).run n=_;simp only[yK,G.run,aI,fD,ge_iff_le];by_cases h:0≤p.Len<;>simp[h]<;>rfl
 rw[this];rfl
theorem Tp(x:Int)(h0:0≤x)(h1:x≤32)(k:sK.sh.El→Option β):(sK.S n x).bind k=k (oI x):=by
 have:sK.S n x=some (FB x):=by
  show(Az x).run n=_;simp only[Az,G.run,aI,yg];rw[if_pos (by rw[wrap32 h0 h1];simp;omega)]
  rfl
 rw[this,N6 h0 h1];rfl
theorem L4(p:Prefix)(ip:Int)(k:qH.sh.El→Option β):(qH.S n (p,ip)).bind k=k (gF p ip):=by
 have:qH.S n (p,ip)=some (gF p ip):=by
  show(uR p ip).run n=_;simp only[uR,G.run,aI,JX,gF,Td];by_cases h:fD p=true
  ·simp only[h,if_true,Bool.true_and];simp only[fD,Bool.and_eq_true,decide_eq_true_eq]at h;simp only[Tp n p.Len h.1 h.2];rfl
  ·simp[h];rfl
 rw[this];rfl
theorem HM(p q:Prefix)(k:fJ.sh.El→Option β):(fJ.S n (p,q)).bind k=k (om p q):=by
 have:fJ.S n (p,q)=some (om p q):=by
  show(xA p q).run n=_;simp only[xA,G.run,aI,JX,L4,om];cases fD p<;>cases fD q<;>cases decide (p.Len≤q.Len)<;>rfl
 rw[this];rfl
theorem AA(r:aq)(k:nG.sh.El→Option β):(nG.S n r).bind k=k (fZ r):=by
 have:nG.S n r=some (fZ r):=by
  show(xy r).run n=_;simp only[xy,G.run,aI,fZ,beq_iff_eq];by_cases h:r.N.Kind=5
  ·simp[h];rfl
  ·by_cases h2:r.N.Kind=2
   ·cases h3:r.N.fM<;>simp[h,h2]<;>rfl
   ·simp[h,h2];rfl
 rw[this];rfl
end
theorem Tq(M:Nat)(l:List Int)(x:Int)(hl:l.length<100000)(hN:l.length+1<M):Ay.S M (l,x)=some (decide (x∈l)):=by
 show(uQ l x).run M=_;simp only[uQ,G.run,aI,if_true,bD,cn];refine qd (I:=fun s=>∃i:Nat,s=(i:Int)∧i≤l.length∧∀j,j<i→l[j]? ≠some x) (m:=fun s=>l.length - s.toNat) (Q:=fun t=>(t=.inl ()∧x∈l)∨(t=.inr ()∧x∉l)) ⟨0,rfl,Nat.zero_le _,fun j hj=>absurd hj (Nat.not_lt_zero _)⟩ (by simp;omega) (fun s hs=>?_) (fun t ht=>?_)
 ·obtain⟨i,rfl,hi,hno⟩:=hs;by_cases he:i=l.length
  ·left;subst he;rw[if_neg (by simp)]
   refine⟨_,rfl,.inr ⟨rfl,fun h=>?_⟩⟩
   obtain⟨j,h1,h2⟩:=List.getElem_of_mem h;exact hno j h1 (by rw[List.getElem?_eq_getElem h1,h2])
  ·have hil:i<l.length:=by omega
   have e1:gi l (i:Int)=some l[i]:=by rw[bQ];exact List.getElem?_eq_getElem hil
   rw[if_pos (by simp;omega),e1]
   simp only[Option.bind_some,KH (show i<1000000 by omega)]
   by_cases hx:l[i]=x
   ·left;rw[if_pos (by simpa using hx)]
    exact⟨_,rfl,.inl ⟨rfl,by rw[← hx];exact List.getElem_mem hil⟩⟩
   ·right;rw[if_neg (by simpa using hx)]
    refine⟨_,rfl,⟨i+1,rfl,by omega,fun j hj=>?_⟩,by simp only[Int.toNat_natCast];omega⟩
    by_cases hji:j=i
    ·subst hji;rw[List.getElem?_eq_getElem hil];simpa using hx
    ·exact hno j (by omega)
 ·rcases ht with⟨rfl,h⟩ |⟨rfl,h⟩
  ·rw[decide_eq_true h];rfl
  ·rw[decide_eq_false h];rfl
theorem cr.get{α:Type}{N:Nat}{o:Nat→Option α}{v:α}(h:cr N o fun x=>x=v){n:Nat}(hn:N≤n):o n=some v:=by
 obtain⟨r,rfl,h2⟩:=h;exact h2 n hn
def sN(l:List (V8 Int)):Prop:=∀c∈l,Au c
theorem Tr(N:Nat)(r:aq)(hr:rL r)(ho:sN r.A.aY)(hN:1000≤N):cr N (fun n=>wj.S n r.A.aY) fun(t:List Int)=>t=nO r:=by
 have:=hr.2.2;exact⟨nO r,rfl,fun n hn=>I8 n _ (by omega) (by omega) ho⟩
theorem HQ(N:Nat)(l:List Int)(r:aq)(hr:rL r)(ho:sN r.A.aY)(hl:l.length<900)(hN:1000≤N):cr N (fun n=>nH.S n (l,r)) fun(b:Bool)=>b=meets l (nO r):=by
 have htl:=I9 r;have hrl:=hr.2.2;refine(?_ :bk N (xz l r) _);unfold xz;refine .skip (.call _ (Tr N r hr ho hN) fun t ht=>.skip ?_)
 rw[show t=nO r from ht];refine .loop (fun(a:Int)=>(0≤a∧a≤((nO r).length:Int))∧∀(k:Nat) y,(k:Int)<a→(nO r)[k]? =some y→y∉l) (fun a=>(((nO r).length:Int) - a).toNat)
  (fun(t:Unit⊕Unit)=>match t with | .inl _=>meets l (nO r)=true | .inr _=>meets l (nO r)=false) rfl ⟨⟨by simp,by simp⟩,fun k y hk=>by omega⟩ ?_ ?_ ?_
 ·simp;omega
 ·rintro a ⟨⟨h0,h1⟩,h2⟩;refine .skip (.op () rfl (.skip (.br (fun h=>.skip ?_) fun h=>.skip (.done rfl ?_))))
  ·simp only[decide_eq_true_eq]at h;obtain⟨y,hy,hg⟩:=fq (nO r) (eI .u32) 1 a h0 h;refine .op y hy (.skip (.call (fun(b:Bool)=>b=decide (y∈l)) ⟨_,rfl,fun n hn=>Tq n l y (by omega) (by omega)⟩ fun b hb=>.br (fun hb1=>.skip (.done rfl ?_)) fun hb1=>.skip (.done rfl ?_)))
   ·rw[hb]at hb1;exact List.any_eq_true.2 ⟨y,by simpa using hb1,by simpa using List.mem_of_getElem? hg⟩
   ·rw[hb]at hb1;rw[wrap_i64 (by omega) (by omega)]
    refine⟨⟨⟨?_,?_⟩,fun k z hk hz=>?_⟩,?_⟩
    ·omega
    ·omega
    ·by_cases he:k=a.toNat
     ·subst he;rw[hg]at hz;cases hz;simpa using hb1
     ·exact h2 k z (by omega) hz
    ·(try simp only);omega
  ·simp only[decide_eq_false_iff_not]at h;refine(?_ :meets l (nO r)=false);rw[← Bool.not_eq_true];intro hc;obtain⟨y,hy,hyl⟩:=List.any_eq_true.1 hc;obtain⟨k,hk,he⟩:=List.getElem_of_mem (show y∈nO r by simpa using hyl)
   exact h2 k y (by omega) (by rw[List.getElem?_eq_getElem hk,he]) hy
 ·rintro(t |t) ht
  ·exact .done rfl (show true=meets l (nO r)from(show meets l (nO r)=true from ht).symm)
  ·exact .skip (.done rfl (show false=meets l (nO r)from(show meets l (nO r)=false from ht).symm))
theorem CD(n:Nat)(x:cu)(r:aq)(hr:rL r)(ho:sN r.A.aY)(hx:zh x)(hn:1000≤n):wv.S n (x,r)=some (oa r x):=by
 have hx1:=hx.1;have hx2:=hx.2.1;have e1:∀{β:Type} (k:oh.sh.El→Option β),(oh.S n (x.iw,r.N.Kind)).bind k=k (decide (r.N.Kind∈x.iw)):=fun {β} k=>by rw[N5 n x.iw r.N.Kind (by omega) (by omega)];rfl
 have e2:∀{β:Type} (k:nH.sh.El→Option β),(nH.S n (x.Targets,r)).bind k=k (meets x.Targets (nO r)):=fun {β} k=>by rw[cr.get (HQ 1000 x.Targets r hr ho (by omega) (Nat.le_refl _)) hn];rfl
 have f1:decide (((x.iw.length:Nat):Int)>0)= !decide (x.iw.length=0):=by
  have:((x.iw.length:Nat):Int)>0↔¬x.iw.length=0:=by omega
  simp only[this,decide_not]
 have f2:decide (((x.Targets.length:Nat):Int)>0)= !decide (x.Targets.length=0):=by
  have:((x.Targets.length:Nat):Int)>0↔¬x.Targets.length=0:=by omega
  simp only[this,decide_not]
 have f3:(x.bS != 0)= !decide (x.bS=0):=by rw[Bool.eq_iff_iff];simp
 have f4:(x.bS != r.bS)= !decide (x.bS=r.bS):=by rw[Bool.eq_iff_iff];simp
 show(wu x r).run n=_;simp only[wu,G.run,aI,if_true,bD,AA,e1,e2,HM,f1,f2,f3,f4];unfold oa yh zL;generalize decide (x.iw.length=0)=b1;generalize decide (r.N.Kind∈x.iw)=b2;generalize decide (x.Targets.length=0)=b3;generalize meets x.Targets (nO r)=b4;generalize decide (x.bS=0)=b5;generalize decide (x.bS=r.bS)=b6;generalize x.dB=b7;generalize (fZ r).2=b8;generalize om x.Prefix (fZ r).1=b9;generalize decide ((fZ r).1.Len≥x.Ge)=b10;generalize decide ((fZ r).1.Len≤x.Le)=b11;cases b1<;>cases b2<;>(try rfl)<;>cases b3<;>cases b4<;>(try rfl)<;>cases b5<;>cases b6<;>(try rfl)<;>cases b7<;>(try rfl)<;>cases b8<;>(try rfl)<;>cases b9<;>(try rfl)<;>cases b10<;>(try rfl)<;>cases b11<;>rfl
end Go.L
