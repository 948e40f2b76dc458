/- What matching rules answers, exactly. No conditions. -/
import Derived.Test.YtpgpmlaafigpaaaGreatDoorWPm
import Derived.Test.YtpgpmlaafigpaaaGreatDoorPMe
import Derived.Test.YtpgpmlaafigpaaaGreatDoorPTt
namespace Go.L
open Go.AM Go.Sort
set_option maxRecDepth 100000
set_option linter.unusedVariables false
set_option linter.unusedSimpArgs false
theorem wrap_u32(x:Int):Go.IntKind.wrap .u32 x=x % 4294967296:=by
 simp[Go.IntKind.wrap,Go.IntKind.bits,Go.IntKind.signed]
theorem yg{β:Type}(k1 k2:Go.IntKind)(a b:Int)(k:Unit→Option β):(Eu k1 k2 a b).run.bind k=if decide (0≤b)=true then k ()else none:=by
 show(if decide (0≤b)=true then some ()else none).bind k=_
 split<;>rfl
def B5(a b:Int):Int:=Go.IntKind.wrap .u32 (((BitVec.ofInt 32 a)&&& (BitVec.ofInt 32 b)).toNat:Int)
def LS(a b:Int):Int:=Go.IntKind.wrap .u32 (((BitVec.ofInt 32 a) ^^^ (BitVec.ofInt 32 b)).toNat:Int)
def oI(n:Int):Int:=Go.IntKind.wrap .u32 ((4294967295:Int)*((2:Int) ^ (min (Int.toNat (Go.IntKind.wrap .i64 ((32:Int) - n))) (Go.IntKind.bits .u32))))
def PB(n:Int):Int:=Go.IntKind.wrap .u32 ((Go.IntKind.wrap .u32 ((1:Int)*((2:Int) ^ (min (Int.toNat (Go.IntKind.wrap .i64 ((32:Int) - n))) (Go.IntKind.bits .u32))))) - (1:Int))
def FB(n:Int):Int:=Go.IntKind.wrap .u32 (((BitVec.ofInt 32 4294967295) ^^^ (BitVec.ofInt 32 (PB n))).toNat:Int)
theorem N6{n:Int}(h0:0≤n)(h1:n≤32):FB n=oI n:=by
 have key:((List.range 33).all fun k=>FB (k:Int)==oI (k:Int))=true:=by decide+kernel
 have:=List.all_eq_true.1 key n.toNat (List.mem_range.2 (by omega))
 rw[Int.toNat_of_nonneg h0]at this;simpa using this
def gF(p:Prefix)(ip:Int):Bool:=fD p&&(B5 (LS p.IP ip) (oI p.Len)==0)
theorem wrap32{x:Int}(h0:0≤x)(h1:x≤32):Go.IntKind.wrap .i64 (32 - x)=32 - x:=wrap_i64 (by omega) (by omega)
theorem UC(x:BitVec 32):Go.IntKind.wrap .u32 (x.toNat:Int)=(x.toNat:Int):=by
 rw[wrap_u32];have:=x.isLt;omega
theorem Nc(x:BitVec 32):BitVec.ofInt 32 (x.toNat:Int)=x:=by
 apply BitVec.eq_of_toNat_eq;rw[BitVec.toNat_ofInt];have:=x.isLt;omega
theorem EK(a b m:BitVec 32):(a ^^^ b)&&& m=0↔a&&& m=b&&& m:=by
 constructor
 ·intro h;apply BitVec.eq_of_getElem_eq;intro i hi;have:=congrArg (fun v:BitVec 32=>v[i]) h
  simp only[BitVec.getElem_and,BitVec.getElem_xor,BitVec.getElem_zero]at this ⊢
  revert this;cases a[i]<;>cases b[i]<;>cases m[i]<;>simp
 ·intro h;apply BitVec.eq_of_getElem_eq;intro i hi;have:=congrArg (fun v:BitVec 32=>v[i]) h
  simp only[BitVec.getElem_and,BitVec.getElem_xor,BitVec.getElem_zero]at this ⊢
  revert this;cases a[i]<;>cases b[i]<;>cases m[i]<;>simp
theorem Td(a b m:Int):(B5 (LS a b) m==0)=(B5 a m==B5 b m):=by
 unfold B5 LS;simp only[UC,Nc];rw[Bool.eq_iff_iff];simp only[beq_iff_eq];constructor
 ·intro h;have h2:((BitVec.ofInt 32 a ^^^ BitVec.ofInt 32 b)&&& BitVec.ofInt 32 m)=0:=by
   apply BitVec.eq_of_toNat_eq;simpa using h
  rw[(EK _ _ _).1 h2]
 ·intro h;have h2:(BitVec.ofInt 32 a&&& BitVec.ofInt 32 m)=(BitVec.ofInt 32 b&&& BitVec.ofInt 32 m):=by
   apply BitVec.eq_of_toNat_eq;omega
  rw[(EK _ _ _).2 h2];rfl
section
variable {β:Type} (n:Nat)
theorem v8(p:Prefix)(k:iK.sh.El→Option β):(iK.S n p).bind k=k (fD p):=by
 have:iK.S n p=some (fD p):=by
  show(nL p).run n=_;simp only[nL,G.run,aI,fD,ge_iff_le];by_cases h:0≤p.Len<;>simp[h]<;>rfl
 rw[this];rfl
theorem Bp(x:Int)(h0:0≤x)(h1:x≤32)(k:lQ.sh.El→Option β):(lQ.S n x).bind k=k (oI x):=by
 have:lQ.S n x=some (oI x):=by
  show(o7 x).run n=_;simp only[o7,G.run,aI,yg,oI];rw[if_pos (by rw[wrap32 h0 h1];simp;omega)]
  rfl
 rw[this];rfl
theorem uA(p:Prefix)(ip:Int)(k:fN.sh.El→Option β):(fN.S n (p,ip)).bind k=k (gF p ip):=by
 have:fN.S n (p,ip)=some (gF p ip):=by
  show(kC p ip).run n=_;simp only[kC,G.run,aI,v8,gF];by_cases h:fD p=true
  ·simp only[h,if_true,Bool.true_and];simp only[fD,Bool.and_eq_true,decide_eq_true_eq]at h;rw[Bp n p.Len h.1 h.2];rfl
  ·simp[h];rfl
 rw[this];rfl
end
section
variable {β:Type} (n:Nat)
def om(p q:Prefix):Bool:=fD p&&(fD q&&(decide (p.Len≤q.Len)&&gF p q.IP))
theorem F9(p q:Prefix)(k:jC.sh.El→Option β):(jC.S n (p,q)).bind k=k (om p q):=by
 have:jC.S n (p,q)=some (om p q):=by
  show(qV p q).run n=_;simp only[qV,G.run,aI,v8,uA,om];cases fD p<;>cases fD q<;>cases decide (p.Len≤q.Len)<;>rfl
 rw[this];rfl
def fZ(r:aq):Prefix×Bool:=if r.N.Kind=5 then(r.N.Prefix,true)else if r.N.Kind=2∧r.N.fM=true then(⟨r.N.IP,32⟩,true)else(⟨0,0⟩,false)
theorem yF(r:aq)(k:jg.sh.El→Option β):(jg.S n r).bind k=k (fZ r):=by
 have:jg.S n r=some (fZ r):=by
  show(vW r).run n=_;simp only[vW,G.run,aI,fZ,beq_iff_eq];by_cases h:r.N.Kind=5
  ·simp[h];rfl
  ·by_cases h2:r.N.Kind=2
   ·cases h3:r.N.fM<;>simp[h,h2]<;>rfl
   ·simp[h,h2];rfl
 rw[this];rfl
def zL(x:cu)(r:aq):Bool:=(fZ r).2&&(om x.Prefix (fZ r).1&&(decide ((fZ r).1.Len≥x.Ge)&&decide ((fZ r).1.Len≤x.Le)))
theorem Km(x:cu)(r:aq)(k:rI.sh.El→Option β):(rI.S n (x,r)).bind k=k (zL x r):=by
 have:rI.S n (x,r)=some (zL x r):=by
  show(vY x r).run n=_;simp only[vY,G.run,aI,yF,F9,zL];cases(fZ r).2<;>cases om x.Prefix (fZ r).1<;>cases decide ((fZ r).1.Len≥x.Ge)<;>cases decide ((fZ r).1.Len≤x.Le)<;>rfl
 rw[this];rfl
end
theorem cr.eq{α:Type}{N:Nat}{o:Nat→Option α}{r:α}(h:∀n (k:α→Option α),(o n).bind k=k r):cr N o fun x=>x=r:=
 ⟨r,rfl,fun n _=>by
  have:=h n (fun x=>some x)
  cases e:o n with
  |none=>rw[e]at this;cases this
  |some y=>rw[e]at this;exact congrArg some (Option.some.inj this)⟩
theorem UD(N:Nat)(x y:Int):cr N (fun n=>aQ.S n (x,y)) fun(b:Bool)=>b=ltInt x y:=cr.eq fun n k=>vZ (n:=n) x y k
theorem fq{X:Type}(l:List X)(enc:X→List AVal)(n:Nat)(i:Int)(h0:0≤i)(h1:i<(l.length:Int)):∃x,(aV l enc n i).run=some x∧l[i.toNat]? =some x:=by
 have hlt:i.toNat<l.length:=by omega
 refine⟨l[i.toNat],?_,List.getElem?_eq_getElem hlt⟩;show gi l i=_;simp[gi,h0,hlt]
theorem UE(N:Nat)(x:Int):cr N (fun n=>mE.S n x) fun(b:Bool)=>b=false:=
 ⟨(x != x),by simp,fun n _=>rfl⟩
def qe(l:List Int):Prop:=l.Pairwise (· < ·)
theorem EL{l:List Int}(h:qe l){i j:Nat}{x y:Int}(hi:l[i]? =some x)(hj:l[j]? =some y)(hij:i<j):x<y:=by
 obtain⟨h1,rfl⟩:=List.getElem?_eq_some_iff.1 hi;obtain⟨h2,rfl⟩:=List.getElem?_eq_some_iff.1 hj;exact List.pairwise_iff_getElem.1 h i j h1 h2 hij
theorem PC(N:Nat)(l:List Int)(x:Int)(ha:qe l)(hl:l.length<1000000)(hN:l.length<N):cr N (fun n=>iS.S n (l,x)) fun(r:Prod Int Bool)=>r.2=decide (x∈l):=by
 refine(?_ :bk N (dX l x) _);unfold dX;refine .skip (.op () rfl (.skip (.loop (fun(a:Int×Int)=>(0≤a.1∧a.1≤a.2∧a.2≤(l.length:Int))∧(∀(k:Nat) y,(k:Int)<a.1→l[k]? =some y→y<x)∧(∀(k:Nat) y,a.2≤(k:Int)→l[k]? =some y→¬y<x)) (fun a=>(a.2 - a.1).toNat)
  (fun(t:Int)=>(0≤t∧t≤(l.length:Int))∧(∀(k:Nat) y,(k:Int)<t→l[k]? =some y→y<x)∧(∀(k:Nat) y,t≤(k:Int)→l[k]? =some y→¬y<x)) rfl ⟨⟨by simp,by simp,by simp⟩,fun k y hk=>by simp only at hk;omega,fun k y hk hy=>?_⟩ ?_ ?_ ?_)))
 ·have:=(List.getElem?_eq_some_iff.1 hy).1;simp only at hk;omega
 ·simp;omega
 ·rintro⟨i,j⟩ ⟨⟨h0,h1,h2⟩,h3,h4⟩;simp only at h0 h1 h2 h3 h4 ⊢;refine .skip (.br (fun h=>.skip ?_) fun h=>.skip (.done rfl ?_))
  ·simp only[decide_eq_true_eq]at h;rw[Ri i j h0 (by omega) (by omega)]
   obtain⟨y,hy,hg⟩:=fq l (eI .u32) 1 ((i+j) / 2) (by omega) (by omega)
   refine .op y hy (.skip (.call _ (UD N y x) fun b hb=>.br (fun hb1=>.skip (.done rfl ?_)) fun hb1=>.skip (.done rfl ?_)))
   ·rw[wrap_i64 (by omega) (by omega)]
    rw[hb]at hb1;have hlt:y<x:=by simpa[ltInt]using hb1
    refine⟨⟨⟨?_,?_,?_⟩,fun k z hk hz=>?_,fun k z hk hz=>h4 k z hk hz⟩,?_⟩
    ·simp only;omega
    ·simp only;omega
    ·simp only;omega
    ·simp only at hk;by_cases he:k=((i+j) / 2).toNat
     ·subst he;rw[hg]at hz;cases hz;exact hlt
     ·exact Int.lt_trans (EL ha hz hg (by omega)) hlt
    ·simp only;omega
   ·rw[hb]at hb1;have hlt:¬y<x:=by simpa[ltInt]using hb1
    refine⟨⟨⟨?_,?_,?_⟩,fun k z hk hz=>h3 k z hk hz,fun k z hk hz=>?_⟩,?_⟩
    ·simp only;omega
    ·simp only;omega
    ·simp only;omega
    ·simp only at hk;by_cases he:k=((i+j) / 2).toNat
     ·subst he;rw[hg]at hz;cases hz;exact hlt
     ·have:=EL ha hg hz (by omega);omega
    ·simp only;omega
  ·simp only[decide_eq_false_iff_not]at h;exact⟨⟨h0,by omega⟩,h3,fun k y hk hy=>h4 k y (by omega) hy⟩
 ·rintro t ⟨⟨h0,h1⟩,h3,h4⟩;refine .skip (.br (fun h=>.skip ?_) fun h=>?_)
  ·simp only[decide_eq_true_eq]at h;obtain⟨y,hy,hg⟩:=fq l (eI .u32) 1 t h0 h;have hmem:x∈l↔y=x:=by
    constructor
    ·intro hx;obtain⟨k,hk,he⟩:=List.getElem_of_mem hx;have hz:l[k]? =some x:=by rw[List.getElem?_eq_getElem hk,he]
     by_cases h5:(k:Int)<t
     ·have:=h3 k x h5 hz;omega
     ·by_cases h6:k=t.toNat
      ·subst h6;rw[hg]at hz;exact Option.some.inj hz
      ·have h7:=EL ha hg hz (by omega)
       have h8:=h4 t.toNat y (by omega) hg
       omega
    ·rintro rfl;exact List.mem_of_getElem? hg
   refine .op y hy (.skip (.br (fun he=>.skip (.done rfl ?_)) fun he=>.skip (.op y hy (.skip (.call _ (UE N y) fun b hb=>.skip (.br (fun hb1=>?_) fun _=>.skip (.done rfl ?_)))))))
   ·simp only[beq_iff_eq]at he;simp[hmem,he]
   ·rw[hb]at hb1;cases hb1
   ·have:y≠x:=by simpa using he
    simp[hmem,this]
  ·simp only[decide_eq_false_iff_not]at h;refine .skip (.done rfl ?_);have:x∉l:=fun hx=>by
    obtain⟨k,hk,he⟩:=List.getElem_of_mem hx;have hz:l[k]? =some x:=by rw[List.getElem?_eq_getElem hk,he]
    have:=h3 k x (by omega) hz
    omega
   simp[this]
theorem Rp(N:Nat)(l:List Int)(x:Int)(ha:qe l)(hl:l.length<1000000)(hN:l.length<N):cr N (fun n=>nM.S n (l,x)) fun(b:Bool)=>b=decide (x∈l):=by
 refine(?_ :bk N (sv l x) _);unfold sv;exact .skip (.call _ (PC N l x ha hl hN) fun r hr=>.skip (.done rfl hr))
theorem PD(N:Nat)(x:Int)(l:List Int)(ha:qe l)(hl:l.length<1000000)(hN:l.length<N):cr N (fun n=>zf.S n (x,l)) fun(b:Bool)=>b=decide (x∈l):=by
 refine(?_ :bk N (tQ x l) _);unfold tQ;exact .skip (.call _ (Rp N l x ha hl hN) fun r hr=>.skip (.done rfl hr))
def meets(m l:List Int):Bool:=m.any fun x=>decide (x∈l)
theorem Rq(N:Nat)(m l:List Int)(ha:qe l)(hm:m.length<1000000)(hl:l.length<1000000)(hM:m.length<N)(hN:l.length<N):cr N (fun n=>nN.S n (m,l)) fun(r:Int)=>decide (r≥0)=meets m l:=by
 refine(?_ :bk N (jL m l) _);unfold jL;refine .skip (.op () rfl (.skip (.loop (fun(a:Int)=>(0≤a∧a≤(m.length:Int))∧∀(k:Nat) y,(k:Int)<a→m[k]? =some y→y∉l) (fun a=>((m.length:Int) - a).toNat)
  (fun(t:Int⊕Unit)=>match t with | .inl i=>0≤i∧meets m l=true | .inr _=>meets m l=false) rfl ⟨⟨by simp,by simp⟩,fun k y hk=>by omega⟩ ?_ ?_ ?_)))
 ·simp;omega
 ·rintro a ⟨⟨h0,h1⟩,h2⟩;refine .skip (.br (fun h=>.skip ?_) fun h=>.skip (.done rfl ?_))
  ·simp only[decide_eq_true_eq]at h;obtain⟨y,hy,hg⟩:=fq m (eI .u32) 1 a h0 h;refine .op y hy (.skip (.call _ (PD N y l ha hl hN) fun b hb=>.br (fun hb1=>.skip (.done rfl ?_)) fun hb1=>.skip (.done rfl ?_)))
   ·rw[hb]at hb1;exact⟨h0,List.any_eq_true.2 ⟨y,List.mem_of_getElem? hg,hb1⟩⟩
   ·rw[hb]at hb1;rw[wrap_i64 (by omega) (by omega)]
    refine⟨⟨⟨?_,?_⟩,fun k z hk hz=>?_⟩,?_⟩
    ·omega
    ·omega
    ·by_cases he:k=a.toNat
     ·subst he;rw[hg]at hz;cases hz;simpa using hb1
     ·exact h2 k z (by omega) hz
    ·(try simp only);omega
  ·simp only[decide_eq_false_iff_not]at h;refine(?_ :meets m l=false);rw[← Bool.not_eq_true];intro hc;obtain⟨y,hy,hyl⟩:=List.any_eq_true.1 hc;obtain⟨k,hk,he⟩:=List.getElem_of_mem hy;exact h2 k y (by omega) (by rw[List.getElem?_eq_getElem hk,he]) (by simpa using hyl)
 ·rintro(t |t) ht
  ·refine .done rfl ?_;obtain⟨h1,h2⟩:=ht;rw[h2];simpa using h1
  ·refine .skip (.done rfl ?_);rw[show meets m l=false from ht];rfl
theorem Rr(N:Nat)(m l:List Int)(ha:qe l)(hm:m.length<1000000)(hl:l.length<1000000)(hM:m.length<N)(hN:l.length<N):cr N (fun n=>Bn.S n (m,l)) fun(b:Bool)=>b=meets m l:=by
 refine(?_ :bk N (vX m l) _);unfold vX;refine .skip (.call (fun(b:Bool)=>b=meets m l) ?_ fun r hr=>.skip (.done rfl hr))
 refine(?_ :bk N (iT m l) _);unfold iT;exact .skip (.call _ (Rq N m l ha hm hl hM hN) fun r hr=>.skip (.done rfl hr))
theorem Te(N:Nat)(l:List Int)(x:Int)(hl:l.length<1000000)(hN:l.length<N):cr N (fun n=>gZ.S n (l,x)) fun(r:Int)=>decide (r≥0)=decide (x∈l):=by
 refine(?_ :bk N (fV l x) _);unfold fV;refine .skip (.op () rfl (.skip (.loop (fun(a:Int)=>(0≤a∧a≤(l.length:Int))∧∀(k:Nat) y,(k:Int)<a→l[k]? =some y→y≠x) (fun a=>((l.length:Int) - a).toNat)
  (fun(t:Int⊕Unit)=>match t with | .inl i=>0≤i∧x∈l | .inr _=>x∉l) rfl ⟨⟨by simp,by simp⟩,fun k y hk=>by omega⟩ ?_ ?_ ?_)))
 ·simp;omega
 ·rintro a ⟨⟨h0,h1⟩,h2⟩;refine .skip (.br (fun h=>.skip ?_) fun h=>.skip (.done rfl ?_))
  ·simp only[decide_eq_true_eq]at h;obtain⟨y,hy,hg⟩:=fq l (eI .i64) 1 a h0 h;refine .op y hy (.skip (.br (fun hb1=>.skip (.done rfl ?_)) fun hb1=>.skip (.done rfl ?_)))
   ·simp only[beq_iff_eq]at hb1
    first
     | (subst hb1;exact⟨h0,List.mem_of_getElem? hg⟩)
     | (rw[hb1];exact⟨h0,List.mem_of_getElem? hg⟩)
   ·rw[wrap_i64 (by omega) (by omega)]
    refine⟨⟨⟨?_,?_⟩,fun k z hk hz=>?_⟩,?_⟩
    ·omega
    ·omega
    ·by_cases he:k=a.toNat
     ·subst he;rw[hg]at hz;cases hz;have:=(beq_eq_false_iff_ne).1 hb1
      first
       |exact this
       |exact fun q=>this q.symm
     ·exact h2 k z (by omega) hz
    ·(try simp only);omega
  ·simp only[decide_eq_false_iff_not]at h;refine(?_ :x∉l);intro hx;obtain⟨k,hk,he⟩:=List.getElem_of_mem hx;exact h2 k x (by omega) (by rw[List.getElem?_eq_getElem hk,he]) rfl
 ·rintro(t |t) ht
  ·refine .done rfl ?_;obtain⟨h1,h2⟩:=ht;simp[h1,h2]
  ·refine .skip (.done rfl ?_);have:x∉l:=ht;simp[this]
theorem LU(N:Nat)(l:List Int)(x:Int)(hl:l.length<1000000)(hN:l.length<N):cr N (fun n=>cM.S n (l,x)) fun(b:Bool)=>b=decide (x∈l):=by
 refine(?_ :bk N (ey l x) _);unfold ey;exact .skip (.call _ (Te N l x hl hN) fun r hr=>.skip (.done rfl hr))
noncomputable def nO(r:aq):List Int:=uniq (r.A.aY.filterMap fW)
def yh(x:cu)(r:aq)(t:List Int):Bool:=(decide (x.iw.length=0)||decide (r.N.Kind∈x.iw))&&((decide (x.Targets.length=0)||meets x.Targets t)&&((decide (x.bS=0)||decide (x.bS=r.bS))&&(!x.dB||zL x r)))
theorem Wt{N:Nat}{x1 x2 x3 x4 x5 x6 x7 x8 x9 x10 x11 x12 x13 x14 x15 x16 x17 x18 x19 x20 x21 x22 x23 x24 x25 x26 x27 x28 x29 x30 x31 x32 x33 x34 x35 x36 x37 x38 x39 x40 x41 x42 x43 x44 x45 x46 x47 x48 x49 x50 x51 x52 x53}(hl:List.length x1<1000000)(hN:List.length x1<N):bk N (sw x1 x2 x3 x4 x5 x6 x7 x8 x9 x10 x11 x12 x13 x14 x15 x16 x17 x18 x19 x20 x21 x22 x23 x24 x25 x26 x27 x28 x29 x30 x31 x32 x33 x34 x35 x36 x37 x38 x39 x40 x41 x42 x43 x44 x45 x46 x47 x48 x49 x50 x51 x52 x53) fun(b:Bool)=>b=(decide (x1.length=0)||decide (x16∈x1)):=by
 unfold sw;refine .skip (.op () rfl (.skip (.br (fun h=>.skip (.done rfl ?_)) fun h=>.skip (.call _ (LU N x1 x16 hl hN) fun b hb=>.skip (.done rfl ?_)))))
 ·have:x1.length=0:=by simp only[beq_iff_eq]at h;omega
  simp[this]
 ·have:x1.length≠0:=by have:=(beq_eq_false_iff_ne).1 h;omega
  rw[hb];simp[this]
theorem Wu{N:Nat}{x1 x2 x3 x4 x5 x6 x7 x8 x9 x10 x11 x12 x13 x14 x15 x16}(ha:qe x16)(hl:List.length x2<1000000)(hN:List.length x2<N)(hl2:List.length x16<1000000)(hN2:List.length x16<N):bk N (sy x1 x2 x3 x4 x5 x6 x7 x8 x9 x10 x11 x12 x13 x14 x15 x16) fun(b:Bool)=>b=(decide (x2.length=0)||meets x2 x16):=by
 unfold sy;refine .skip (.op () rfl (.skip (.br (fun h=>.skip (.done rfl ?_)) fun h=>.skip (.call _ (Rr N x2 x16 ha hl hl2 hN hN2) fun b hb=>.skip (.done rfl ?_)))))
 ·have:x2.length=0:=by simp only[beq_iff_eq]at h;omega
  simp[this]
 ·have:x2.length≠0:=by have:=(beq_eq_false_iff_ne).1 h;omega
  rw[hb];simp[this]
theorem Wv{N:Nat}{x1 x2 x3 x4 x5 x6 x7 x8 x9 x10 x11 x12 x13 x14 x15 x16 x17 x18 x19 x20 x21 x22 x23 x24 x25 x26 x27 x28 x29 x30 x31 x32 x33 x34 x35 x36 x37 x38 x39 x40 x41 x42 x43 x44 x45 x46 x47 x48 x49 x50 x51 x52 x53}:bk N (sA x1 x2 x3 x4 x5 x6 x7 x8 x9 x10 x11 x12 x13 x14 x15 x16 x17 x18 x19 x20 x21 x22 x23 x24 x25 x26 x27 x28 x29 x30 x31 x32 x33 x34 x35 x36 x37 x38 x39 x40 x41 x42 x43 x44 x45 x46 x47 x48 x49 x50 x51 x52 x53) fun(b:Bool)=>b=(decide (x3=0)||decide (x3=x52)):=by
 unfold sA;refine .skip (.br (fun h=>.skip (.done rfl ?_)) fun h=>.skip (.done rfl ?_))
 ·simp only[beq_iff_eq]at h;simp[h]
 ·have:=(beq_eq_false_iff_ne).1 h;simp only[this,decide_false,Bool.false_or];exact Bool.eq_iff_iff.2 (by simp)
theorem Ww{N:Nat}{x1 x2 x3 x4 x5 x6 x7 x8 x9 x10 x11 x12 x13 x14 x15 x16 x17 x18 x19 x20 x21 x22 x23 x24 x25 x26 x27 x28 x29 x30 x31 x32 x33 x34 x35 x36 x37 x38 x39 x40 x41 x42 x43 x44 x45 x46 x47 x48 x49 x50 x51 x52 x53}:bk N (sB x1 x2 x3 x4 x5 x6 x7 x8 x9 x10 x11 x12 x13 x14 x15 x16 x17 x18 x19 x20 x21 x22 x23 x24 x25 x26 x27 x28 x29 x30 x31 x32 x33 x34 x35 x36 x37 x38 x39 x40 x41 x42 x43 x44 x45 x46 x47 x48 x49 x50 x51 x52 x53) fun(b:Bool)=>b=(!x4||zL (Go.L.cu.mk x1 x2 x3 x4 (Go.L.Prefix.mk x5 x6) x7 x8 x9 x10 x11 x12 x13 x14 x15) (Go.L.aq.mk (Go.L.gO.mk x16 x17 (@Go.AM.kZ.mk Int x18 x19 x20 x21 x22 x23 x24 x25 x26 x27) x28 x29 x30 x31 (Go.L.Prefix.mk x32 x33) x34 x35 x36) (Go.L.bE.mk x37 x38 x39 x40 x41 x42 x43 x44 x45 x46 x47 (Go.L.aC.mk x48 x49 x50 x51)) x52 x53)):=by
 unfold sB;refine .skip (.br (fun h=>.skip (.done rfl ?_)) fun h=>.skip (.call _ (cr.eq fun n k=>Km n _ _ k) fun b hb=>.skip (.done rfl ?_)))
 ·rw[h];rfl
 ·rw[h,hb];rfl
theorem Cy{b:Bool}(h:(!b)=false):b=true:=by simpa using h
theorem LV{b:Bool}(h:(!b)=true):b=false:=by simpa using h
theorem PE(N:Nat)(x:cu)(r:aq)(t:List Int)(ha:qe t)(hk:x.iw.length<1000000)(hkN:x.iw.length<N)(ht:x.Targets.length<1000000)(htN:x.Targets.length<N)(hl:t.length<1000000)(hN:t.length<N):
 cr N (fun n=>qE.S n (x,r,t)) fun(b:Bool)=>b=yh x r t:=by
 refine(?_ :bk N (uL x r t) _);unfold uL;refine .skip (.fL (.skip (.call _ (Wt hk hkN) fun b1 e1=>.skip (.br (fun h=>.skip (.done rfl ?_)) fun h1=>.skip ?_))))
 ·have:b1=false:=LV h;unfold yh;rw[← e1,this];rfl
 refine .call _ (Wu ha ht htN hl hN) fun b2 e2=>.skip (.br (fun h=>.skip (.done rfl ?_)) fun h2=>.skip ?_)
 ·have q1:b1=true:=Cy h1;have q2:b2=false:=LV h;unfold yh;rw[← e1,← e2,q1,q2];rfl
 refine .call _ Wv fun b3 e3=>.skip (.br (fun h=>.skip (.done rfl ?_)) fun h3=>.skip ?_)
 ·have q1:b1=true:=Cy h1;have q2:b2=true:=Cy h2;have q3:b3=false:=LV h;unfold yh;rw[← e1,← e2,← e3,q1,q2,q3];rfl
 refine .call _ Ww fun b4 e4=>.skip (.br (fun h=>.skip (.done rfl ?_)) fun h4=>.skip (.done rfl ?_))
 ·have q1:b1=true:=Cy h1;have q2:b2=true:=Cy h2;have q3:b3=true:=Cy h3;have q4:b4=false:=LV h;unfold yh;rw[← e1,← e2,← e3];refine Eq.trans ?_ (congrArg (fun z=>b1&&(b2&&(b3&&z))) e4);rw[q1,q2,q3,q4];rfl
 ·have q1:b1=true:=Cy h1;have q2:b2=true:=Cy h2;have q3:b3=true:=Cy h3;have q4:b4=true:=Cy h4;unfold yh;rw[← e1,← e2,← e3];refine Eq.trans ?_ (congrArg (fun z=>b1&&(b2&&(b3&&z))) e4);rw[q1,q2,q3,q4];rfl
end Go.L
