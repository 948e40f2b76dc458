/- Parts put together. No conditions. -/
import Derived.Test.YtiohninblcifpaaGreatDoorPo
import Derived.Test.YtiohninblcifpaaGreatDoorPv
import Derived.Test.YtiohninblcifpaaGreatDoorWx
import Derived.Test.YtiohninblcifpaaGreatDoorPc
import Derived.Test.YtiohninblcifpaaGreatDoorWr
set_option linter.unusedSectionVars false
set_option linter.unusedSimpArgs false
set_option linter.unusedVariables false
set_option maxRecDepth 100000
section
namespace Go.L
open Go.AM
theorem QB{f:av}(hv:Vf f):Vf (iy f):=
 {leaves:=hv.leaves,zG:=hv.zG,links:=hv.links,iQ:=hv.iQ,Af:=hv.Af,jB:=hv.jB,bd:=hv.bd,segments:=hv.segments,seg:=hv.seg,sW:=hv.sW,host:=hv.host,
  leaks:=by simp[iy],Rw:=fun x h=>(by cases h),P4:=List.nodup_nil,MC:=hv.MC,GI:=hv.GI,router:=hv.router,timers:=hv.timers}
theorem La(n:Nat)(hn:5000≤n)(f:av)(hv:Vf f):At (ff.S n f) (fun(r:Int×ByteArray×Int)=>r.1=0):=by
 refine(At.eq (r:=tT f) fun k=>JK n hn f (JQ hv) k).mono fun r hr=>?_
 rw[hr,JP hv]
theorem QC(n:Nat)(hn:5000≤n)(f:av)(hv:Vf f):FI n f:=by
 have h1:=hv.segments;have h2:=hv.jB;have h3:=hv.iQ;refine⟨by omega,by omega,fun s hs=>?_,by omega,by omega,by omega,by omega⟩
 obtain⟨⟨a1,a2,a3,a4⟩,b1,b2,b3,b4⟩:=hv.seg s hs;have h4:=hv.leaves;exact⟨by omega,by omega,by omega,by omega,b3⟩
structure MR(rs:List bZ):Prop where
 len:rs.length≤60
 comms:∀r∈rs,r.A.dR.length≤20
 path:∀r∈rs,r.A.Path.length≤20
 Tf:∀r∈rs,r.A.Jk.length≤20
theorem Rx(x y:az):((x.au==y.au)&&((x.af.IP==y.af.IP)&&((x.af.Len==y.af.Len)&&((x.BD==y.BD)&&((x.Next==y.Next)&&((x.aZ==y.aZ)&&((x.aS==y.aS)&&((x.bD==y.bD)&&true))))))))=true↔x=y:=by
 obtain⟨t,⟨p,q⟩,b,nx,v,m,r⟩:=x;obtain⟨t',⟨p',q'⟩,b',nx',v',m',r'⟩:=y;simp only[Bool.and_eq_true,beq_iff_eq,az.mk.injEq,af.mk.injEq,and_true,and_assoc]
noncomputable def yC(n:Nat)(f:av)(self:Int)(up:List Bool)(rs:List bZ):List az:=if 0≤self∧self<f.Leaves then ny f self up rs (Kc n f self)else[]
def MG(n:Nat)(rs:List bZ):Prop:=∀r∈rs,At (cS.S n r.A.dR) (fun(q:List Int)=>q.length≤20)
theorem QD(n:Nat)(f:av)(leaf:Int)(r:bZ)(h:At (cS.S n r.A.dR) (fun(q:List Int)=>q.length≤20)):((Kc n f leaf).tg r).length≤20:=by
 obtain⟨q,h1,h2⟩:=h;show((cS.S n r.A.dR).getD ([]:List Int)).length≤20;rw[h1];exact h2
theorem N5(n:Nat)(f:av)(hv:Vf f)(leaf:Int)(up:List Bool)(rs:List bZ)(hr:MR rs)(ht:MG n rs):(fW f leaf up (Kc n f leaf) rs).length≤1204:=by
 unfold fW;rw[List.length_append];have h1:(qY f (iW f leaf)).length≤f.aG.length:=Hu _ (fun i x=>by unfold oJ;split<;>simp) _
 have h2:∀(l:List bZ),(∀r∈l,r∈rs)→(l.flatMap (Aa f leaf up (Kc n f leaf))).length≤l.length*20:=by
  intro l;induction l with
  |nil=>intro _;simp
  |cons r l ih=>
   intro h;rw[List.flatMap_cons,List.length_append,List.length_cons,Nat.add_mul];have:=ih fun x hx=>h x (List.mem_cons_of_mem _ hx)
   have h3:=Hv f leaf up (Kc n f leaf) r;have h4:=QD n f leaf r (ht r (h r List.mem_cons_self));omega
 have:=h2 rs fun _ h=>h
 have:=hr.len;have:=hv.jB;omega
theorem HA(n:Nat)(hn:5000≤n)(f:av)(hv:Vf f)(self:Int)(up:List Bool)(rs:List bZ)(hr:MR rs)(ht:MG n rs):At (k7.S n (f,self,up,rs)) (fun(r:List az)=>r=yC n f self up rs):=by
 have hck:=La n hn f hv;by_cases h:0≤self∧self<f.Leaves
 ·unfold yC;rw[if_pos h];have hb:=hv.jB;have hk:=hv.leaks;have hl:=hr.len;refine K8 n f self up rs (NU n f self up rs 20 (by omega) hck h.1 h.2 (QC n hn f hv) (by omega) (by omega) (fun r h=>⟨by have:=hr.comms r h;omega,by have:=hr.comms r h;omega⟩) ht (by omega) (by omega) (by omega) (by omega) (by omega) (by omega) ?_)
  refine Nat.lt_of_le_of_lt (Nat.mul_le_mul (show _≤2000 by omega) (show _≤10 by omega)) (by omega)
 ·refine⟨[],?_,by unfold yC;rw[if_neg h]⟩
  have hno:Jz n f self:=hck.mono fun r _=>by omega
  show Ik n (f,self,up,rs)=some [];unfold Ik;rw[if_neg (fun H=>h ⟨H.h0,H.h1⟩),if_pos hno]
theorem F4(n:Nat)(f:av)(hv:Vf f)(self:Int)(up:List Bool)(rs:List bZ)(hr:MR rs)(ht:MG n rs):(yC n f self up rs).length≤3612:=by
 unfold yC;split
 ·unfold ny;rw[(jE _).1.length_eq];have hc:=N5 n f hv self up rs hr ht;have hk:=hv.leaks;have hkey:=Be f self up (Kc n f self) rs;have h1:(ri f self up (Kc n f self) rs).length≤1204:=by
   unfold ri;have:=CZ (fW f self up (Kc n f self) rs) [] (by simp)
   simp only[List.length_nil]at this;omega
  have h2:(mz (ri f self up (Kc n f self) rs)).length≤1204:=by unfold mz;simpa using h1
  have hn2:=FL hkey;rw[← Jw _ _ _ hn2];have h3:=(sj (Kc n f self).bh (mz (ri f self up (Kc n f self) rs)) f.Leaks (mz (ri f self up (Kc n f self) rs),kG (mz (ri f self up (Kc n f self) rs)))).1;have h4:f.Leaks.length*(mz (ri f self up (Kc n f self) rs)).length≤2*1204:=Nat.mul_le_mul hk h2;unfold FJ;simp only at h3;omega
 ·exact Nat.zero_le _
theorem F5(n:Nat)(p:af)(ip:Int):At (cM.S n (p,ip)) fun(b:Bool)=>b=cq p ip:=At.eq fun k=>yb n p ip k
theorem Sr(n:Nat)(f:av)(leaf:Int)(p:af)(ip:Int):(Kc n f leaf).dH p ip=cq p ip:=by
 obtain⟨r,h1,h2⟩:=F5 n p ip;show(cM.S n (p,ip)).getD false=_;rw[h1,h2];rfl
theorem SK(n:Nat)(hn:5000≤n)(f:av)(hv:Vf f)(leaf:Int)(h0:0≤leaf)(h1:leaf<f.Leaves):(Kc n f leaf).lo=xH leaf:=by
 have hl:=hv.leaves;have hs:=hv.zG;obtain⟨r,e1,e2⟩:=Ko n f leaf (La n hn f hv) h0 h1 (by omega) (by omega)
 show(iE.S n (f,leaf)).getD (0:Int)=_;rw[e1,e2];rfl
theorem DP(n:Nat)(x m:Int)(h0:0<m)(h1:m≤1000000):At (vJ.S n (x,m)) (fun(r:Int)=>0≤r∧r<m):=by
 refine(?_ :cD n (B7 x m) _);unfold B7;have e:(BK .i64 x m).run=some ():=by simp[BK,I7,show m≠0 by omega]
 have l1:=Int.tmod_lt_of_pos x h0;have l2:=Int.lt_tmod_of_pos x h0;refine .skip (.op () e (.skip (.br (fun h=>.skip (.done rfl ?_)) fun h=>.skip (.done rfl ?_))))
 ·simp only[decide_eq_true_eq]at h;rw[wrap_i64 (by omega) (by omega)];omega
 ·simp only[decide_eq_false_iff_not]at h;omega
end Go.L
end
section
namespace Go.L
open Go.AM
theorem Oh(n:Nat)(l:List az)(hl:l.length<100000)(hn:l.length<n):At (Bj.S n (l,l)) (fun(b:Bool)=>b=true):=by
 refine(?_ :cD n (wQ l l) _);unfold wQ;refine .skip (.op () rfl (.skip (.op () rfl (.skip (.br (fun h=>by simp at h) fun _=>.skip (.loop (fun a:Int=>dW l (fun _ (_:Unit)=>True) (a,())) (fun a=>l.length - a.toNat) (Sum.elim (fun _=>False) fun _=>True) rfl (dW.start trivial) (by simpa using hn) (fun a ha=>?_) (fun t ht=>?_)))))))
 ·refine .skip (.op () rfl (.skip (.br (fun h=>?_) fun h=>.skip (.done rfl trivial))))
  obtain⟨x,pre,h1,h2,_,_,h4⟩:=ha.get h;refine .skip (.op x h1 (.skip (.op x h1 (.skip (.br (fun h5=>?_) fun _=>.skip (.done rfl (h4 hl () trivial)))))))
  rw[(Rx x x).2 rfl]at h5;cases h5
 ·cases t with
  |inl t=>exact ht.elim
  |inr t=>exact .skip (.done rfl rfl)
theorem KE{l:List az}(h:l.Pairwise (fun a b=>Ay a b)):gO l=l:=by
 have hs:=jE l;refine List.Perm.eq_of_pairwise (le:=fun a b=>¬Ay b a) (fun a b ha hb h1 h2=>?_) hs.2 ?_ hs.1
 ·have ha:=hs.1.mem_iff.1 ha;obtain⟨i,hi,rfl⟩:=List.getElem_of_mem ha;obtain⟨j,hj,rfl⟩:=List.getElem_of_mem hb;rw[List.pairwise_iff_getElem]at h;rcases Nat.lt_trichotomy i j with q |q |q
  ·exact absurd (h i j hi hj q) h2
  ·subst q;rfl
  ·exact absurd (h j i hj hi q) h1
 ·refine h.imp fun {a b} hab hba=>?_
  unfold Ay tq at*;have:=sO hab hba;exact Ek _ this
theorem QL:((ff.S 5000 Cj).map fun(r:Int×ByteArray×Int)=>r.1)=some 0:=by kernel_rfl
theorem QM:(match(cS.S 5000 Et.A.dR:Option (List Int))with |some q=>q.length |none=>21)=2:=by kernel_rfl
theorem Sw:At (cS.S 5000 Et.A.dR) (fun(q:List Int)=>q.length≤20):=by
 have h:=QM
 revert h
 generalize (cS.S 5000 Et.A.dR:Option (List Int))=o;intro h;cases o with
 |none=>cases h
 |some q=>exact⟨q,rfl,by simp only at h;omega⟩
theorem PC:mz (ri Cj 0 [] (Kc 5000 Cj 0) [Et])=JX:=by kernel_rfl
theorem QN:JX.Pairwise (fun a b=>Ay a b):=by
 unfold JX;simp only[List.pairwise_cons,List.mem_singleton,forall_eq,List.not_mem_nil,false_imp_iff,implies_true,List.Pairwise.nil,and_true];show ey _ _<0
 decide
theorem PD:At (yf.S 5000 ()) (fun(b:Bool)=>b=true):=by
 refine(?_ :cD 5000 ye _);unfold ye;have hck:At (ff.S 5000 Cj) (fun(r:Int×ByteArray×Int)=>r.1=0):=by
  obtain⟨r,h1,h2⟩:=Option.map_eq_some_iff.1 QL;exact⟨r,h1,h2⟩
 have hseg:FI 5000 Cj:=by
  refine⟨by decide,by decide,fun s hs=>?_,by decide,by decide,by decide,by decide⟩
  have hs:s∈[(Go.L.aU.mk [(0:Int)] [(0:Int),(1:Int)]),(Go.L.aU.mk [(0:Int),(1:Int)] [(0:Int)])]:=hs;simp only[List.mem_cons,List.not_mem_nil,or_false]at hs;rcases hs with rfl |rfl
  ·refine⟨by decide,by decide,by decide,by decide,fun b hb=>?_⟩
   simp only[List.mem_cons,List.not_mem_nil,or_false]at hb;show 0≤b∧b<2;omega
  ·refine⟨by decide,by decide,by decide,by decide,fun b hb=>?_⟩
   simp only[List.mem_cons,List.not_mem_nil,or_false]at hb;show 0≤b∧b<2;omega
 have hcm:∀r∈[Et],r.A.dR.length=3:=fun r hr=>by
  simp only[List.mem_singleton]at hr;rw[hr];rfl
 have hops:At (k7.S 5000 (Cj,0,[],[Et])) (fun(r:List az)=>r=JX):=by
  refine(K8 5000 Cj 0 [] [Et] (NU 5000 Cj 0 [] [Et] 20 (by omega) hck (by decide) (by decide) hseg (by decide) (by decide) (fun r h=>by rw[hcm r h];omega) (fun r h=>by rw[List.mem_singleton.1 h];exact Sw) (by decide) (by decide) (by decide) (by decide) (by decide) (by decide) (by decide))).mono fun r hr=>?_
  rw[hr];unfold ny;rw[PC];exact KE QN
 refine .skip (.call (fun _=>True) ⟨(),rfl,trivial⟩ fun _ _=>.skip (.call (fun _=>True) ⟨(),rfl,trivial⟩ fun _ _=>.skip (.cB (fun(r:List az)=>r=JX) hops fun r3 h3=>?_)))
 subst h3;exact .skip (.call (fun _=>True) ⟨(),rfl,trivial⟩ fun _ _=>.skip (.call (fun(b:Bool)=>b=true) (Oh 5000 JX (by decide) (by decide)) fun r5 h5=>.skip (.done rfl h5)))
theorem RF{n:Nat}{f:av}{self:Int}{up:List Bool}{l:List bZ}{p:List az→Prop}(h:At (k7.S n (f,self,up,l)) p):At (wP.S n (l,f,self,up,l.length)) p:=by
 obtain⟨r,h1,h2⟩:=h;exact⟨r,(if_pos rfl).trans h1,h2⟩
end Go.L
end
