/- Parts. No conditions. -/
import Derived.Test.YtiohninblcifpaaGreatDoorPo
import Derived.Test.YtiohninblcifpaaGreatDoorPv
import Derived.Test.YtiohninblcifpaaGreatDoorWx
import Derived.Test.YtiohninblcifpaaGreatDoorPc
import Derived.Test.YtiohninblcifpaaGreatDoorWr
set_option linter.unusedSectionVars false
set_option linter.unusedSimpArgs false
set_option linter.unusedVariables false
set_option maxRecDepth 100000
section
namespace Go.L
open Go.AM
theorem Q0(n:Nat)(hn:5000≤n)(f:aG)(hv:Vf f):At (gm.S n f) (fun(r:Int×ByteArray×Int)=>r.1=0):=by
 refine(At.eq (r:=Bi f) fun k=>J3 n hn f (PS hv) k).mono fun r hr=>?_
 rw[hr,PO hv]
theorem Q1(n:Nat)(hn:5000≤n)(f:aG)(hv:Vf f):FY n f:=by
 have h1:=hv.segments;have h2:=hv.sA;have h3:=hv.uV;refine⟨by omega,by omega,fun s hs=>?_,by omega,by omega,by omega,by omega⟩
 obtain⟨⟨a1,a2,a3,a4⟩,b1,b2,b3,b4⟩:=hv.seg s hs;have h4:=hv.leaves;exact⟨by omega,by omega,by omega,by omega,b3⟩
structure MR(rs:List aK):Prop where
 len:rs.length≤60
 comms:∀r∈rs,r.A.dy.length≤20
 path:∀r∈rs,r.A.Path.length≤20
 RX:∀r∈rs,r.A.nL.length≤20
theorem Q2(n:Nat)(hn:5000≤n)(rs:List aK):At (zG.S n rs) (fun(b:Bool)=>b=false→MR rs):=by
 refine(?_ :cz n (uH rs) _);unfold uH;refine .skip (.op () rfl (.skip (.br (fun _=>.skip (.done rfl fun h=>(by cases h))) fun h60=>.skip ?_)))
 simp only[decide_eq_false_iff_not]at h60;refine .loop (fun a:Int=>ep rs (fun pre (_:Unit)=>∀r∈pre,r.A.dy.length≤20∧r.A.Path.length≤20∧r.A.nL.length≤20) (a,())) (fun a=>rs.length - a.toNat) (Sum.elim (fun _=>True) fun _=>∀r∈rs,r.A.dy.length≤20∧r.A.Path.length≤20∧r.A.nL.length≤20) rfl (ep.start (fun _ h=>(by cases h))) (by simp;omega) (fun a ha=>?_) (fun t ht=>?_)
 ·refine .skip (.op () rfl (.skip (.br (fun h=>?_) fun h=>.skip (.done rfl (ha.fin h)))))
  obtain⟨x,pre,h1,h2,h3,_,h4⟩:=ha.get h;refine .skip (.op x h1 (.skip (.op () rfl (.skip (.br (fun _=>.skip (.done rfl trivial)) fun p5=>.skip (.op x h1 (.skip (.op () rfl (.skip (.br (fun _=>.skip (.done rfl trivial)) fun c5=>.skip (.op x h1 (.skip (.op () rfl (.skip (.br (fun _=>.skip (.done rfl trivial)) fun h5=>.skip (.done rfl ?_))))))))))))))))
  refine h4 (by omega) () fun r hr=>?_
  simp only[decide_eq_false_iff_not]at h5 p5 c5;rcases List.mem_append.1 hr with hr |hr
  ·exact h3 r hr
  ·simp only[List.mem_singleton]at hr;subst hr;omega
 ·cases t with
  |inl t=>exact .done rfl fun h=>(by cases h)
  |inr t=>exact .skip (.done rfl fun _=>⟨by omega,fun r h=>(ht r h).1,fun r h=>(ht r h).2.1,fun r h=>(ht r h).2.2⟩)
theorem RY(x y:aF):((x.au==y.au)&&((x.ah.IP==y.ah.IP)&&((x.ah.Len==y.ah.Len)&&((x.BD==y.BD)&&((x.Next==y.Next)&&((x.dM==y.dM)&&((x.bO==y.bO)&&((x.dP==y.dP)&&true))))))))=true↔x=y:=by
 obtain⟨t,⟨p,q⟩,b,nx,v,m,r⟩:=x;obtain⟨t',⟨p',q'⟩,b',nx',v',m',r'⟩:=y;simp only[Bool.and_eq_true,beq_iff_eq,aF.mk.injEq,ah.mk.injEq,and_true,and_assoc]
noncomputable def rH(n:Nat)(f:aG)(self:Int)(up:List Bool)(rs:List aK):List aF:=if 0≤self∧self<f.Leaves then rG f self up rs (Kc n f self)else[]
def MS(n:Nat)(rs:List aK):Prop:=∀r∈rs,At (dV.S n r.A.dy) (fun(q:List Int)=>q.length≤20)
theorem Q3(n:Nat)(f:aG)(leaf:Int)(r:aK)(h:At (dV.S n r.A.dy) (fun(q:List Int)=>q.length≤20)):((Kc n f leaf).tg r).length≤20:=by
 obtain⟨q,h1,h2⟩:=h;show((dV.S n r.A.dy).getD ([]:List Int)).length≤20;rw[h1];exact h2
theorem Ol(n:Nat)(f:aG)(hv:Vf f)(leaf:Int)(up:List Bool)(rs:List aK)(hr:MR rs)(ht:MS n rs):(iK f leaf up (Kc n f leaf) rs).length≤1204:=by
 unfold iK;rw[List.length_append];have h1:(xo f (Aa f leaf)).length≤f.aR.length:=HJ _ (fun i x=>by unfold qI;split<;>simp) _
 have h2:∀(l:List aK),(∀r∈l,r∈rs)→(l.flatMap (B5 f leaf up (Kc n f leaf))).length≤l.length*20:=by
  intro l;induction l with
  |nil=>intro _;simp
  |cons r l ih=>
   intro h;rw[List.flatMap_cons,List.length_append,List.length_cons,Nat.add_mul];have:=ih fun x hx=>h x (List.mem_cons_of_mem _ hx)
   have h3:=HK f leaf up (Kc n f leaf) r;have h4:=Q3 n f leaf r (ht r (h r List.mem_cons_self));omega
 have:=h2 rs fun _ h=>h
 have:=hr.len;have:=hv.sA;omega
theorem Om(n:Nat)(hn:5000≤n)(f:aG)(hv:Vf f)(self:Int)(up:List Bool)(rs:List aK)(hr:MR rs)(ht:MS n rs):At (nU.S n (f,self,up,rs)) (fun(r:List aF)=>r=rH n f self up rs):=by
 have hck:=Q0 n hn f hv;by_cases h:0≤self∧self<f.Leaves
 ·unfold rH;rw[if_pos h];have hb:=hv.sA;have hk:=hv.leaks;have hl:=hr.len;refine Ll n f self up rs (N7 n f self up rs 20 (by omega) hck h.1 h.2 (Q1 n hn f hv) (by omega) (by omega) (fun r h=>⟨by have:=hr.comms r h;omega,by have:=hr.comms r h;omega⟩) ht (by omega) (by omega) (by omega) (by omega) (by omega) (by omega) ?_)
  refine Nat.lt_of_le_of_lt (Nat.mul_le_mul (show _≤2000 by omega) (show _≤10 by omega)) (by omega)
 ·refine⟨[],?_,by unfold rH;rw[if_neg h]⟩
  have hno:JP n f self:=hck.mono fun r _=>by omega
  show IA n (f,self,up,rs)=some [];unfold IA;rw[if_neg (fun H=>h ⟨H.h0,H.h1⟩),if_pos hno]
theorem MT(n:Nat)(f:aG)(hv:Vf f)(self:Int)(up:List Bool)(rs:List aK)(hr:MR rs)(ht:MS n rs):(rH n f self up rs).length≤3612:=by
 unfold rH;split
 ·unfold rG;rw[(iN _).1.length_eq];have hc:=Ol n f hv self up rs hr ht;have hk:=hv.leaks;have hkey:=yJ f self up (Kc n f self) rs;have h1:(tr f self up (Kc n f self) rs).length≤1204:=by
   unfold tr;have:=C6 (iK f self up (Kc n f self) rs) [] (by simp)
   simp only[List.length_nil]at this;omega
  have h2:(oc (tr f self up (Kc n f self) rs)).length≤1204:=by unfold oc;simpa using h1
  have hn2:=yz hkey;rw[← JL _ _ _ hn2];have h3:=(sy (Kc n f self).aY (oc (tr f self up (Kc n f self) rs)) f.Leaks (oc (tr f self up (Kc n f self) rs),lC (oc (tr f self up (Kc n f self) rs)))).1;have h4:f.Leaks.length*(oc (tr f self up (Kc n f self) rs)).length≤2*1204:=Nat.mul_le_mul hk h2;unfold F0;simp only at h3;omega
 ·exact Nat.zero_le _
theorem Q4(n:Nat)(x m:Int)(h0:0<m)(h1:m≤1000000):At (Gp.S n (x,m)) (fun(r:Int)=>0≤r∧r<m):=by
 refine(?_ :cz n (Ce x m) _);unfold Ce;have e:(BL .i64 x m).run=some ():=by simp[BL,GG,show m≠0 by omega]
 have l1:=Int.tmod_lt_of_pos x h0;have l2:=Int.lt_tmod_of_pos x h0;refine .skip (.op () e (.skip (.br (fun h=>.skip (.done rfl ?_)) fun h=>.skip (.done rfl ?_))))
 ·simp only[decide_eq_true_eq]at h;rw[wrap_i64 (by omega) (by omega)];omega
 ·simp only[decide_eq_false_iff_not]at h;omega
end Go.L
end
section
namespace Go.L
open Go.AM
theorem Dp(n:Nat)(l:List aF)(hl:l.length<100000)(hn:l.length<n):At (tf.S n (l,l)) (fun(b:Bool)=>b=true):=by
 refine(?_ :cz n (wN l l) _);unfold wN;refine .skip (.op () rfl (.skip (.op () rfl (.skip (.br (fun h=>by simp at h) fun _=>.skip (.loop (fun a:Int=>ep l (fun _ (_:Unit)=>True) (a,())) (fun a=>l.length - a.toNat) (Sum.elim (fun _=>False) fun _=>True) rfl (ep.start trivial) (by simpa using hn) (fun a ha=>?_) (fun t ht=>?_)))))))
 ·refine .skip (.op () rfl (.skip (.br (fun h=>?_) fun h=>.skip (.done rfl trivial))))
  obtain⟨x,pre,h1,h2,_,_,h4⟩:=ha.get h;refine .skip (.op x h1 (.skip (.op x h1 (.skip (.br (fun h5=>?_) fun _=>.skip (.done rfl (h4 hl () trivial)))))))
  rw[(RY x x).2 rfl]at h5;cases h5
 ·cases t with
  |inl t=>exact ht.elim
  |inr t=>exact .skip (.done rfl rfl)
theorem KU{l:List aF}(h:l.Pairwise (fun a b=>tI a b)):gZ l=l:=by
 have hs:=iN l;refine List.Perm.eq_of_pairwise (le:=fun a b=>¬tI b a) (fun a b ha hb h1 h2=>?_) hs.2 ?_ hs.1
 ·have ha:=hs.1.mem_iff.1 ha;obtain⟨i,hi,rfl⟩:=List.getElem_of_mem ha;obtain⟨j,hj,rfl⟩:=List.getElem_of_mem hb;rw[List.pairwise_iff_getElem]at h;rcases Nat.lt_trichotomy i j with q |q |q
  ·exact absurd (h i j hi hj q) h2
  ·subst q;rfl
  ·exact absurd (h j i hj hi q) h1
 ·refine h.imp fun {a b} hab hba=>?_
  unfold tI rz at*;have:=s6 hab hba;exact Eu _ this
theorem Q6:((gm.S 5000 Cp).map fun(r:Int×ByteArray×Int)=>r.1)=some 0:=by kernel_rfl
theorem Q7:(match(dV.S 5000 EC.A.dy:Option (List Int))with |some q=>q.length |none=>21)=2:=by kernel_rfl
theorem Ta:At (dV.S 5000 EC.A.dy) (fun(q:List Int)=>q.length≤20):=by
 have h:=Q7
 revert h
 generalize (dV.S 5000 EC.A.dy:Option (List Int))=o;intro h;cases o with
 |none=>cases h
 |some q=>exact⟨q,rfl,by simp only at h;omega⟩
theorem P0:oc (tr Cp 0 [] (Kc 5000 Cp 0) [EC])=Kb:=by kernel_rfl
theorem Q8:Kb.Pairwise (fun a b=>tI a b):=by
 unfold Kb;simp only[List.pairwise_cons,List.mem_singleton,forall_eq,List.not_mem_nil,false_imp_iff,implies_true,List.Pairwise.nil,and_true];show dX _ _<0
 decide
theorem P3:At (ya.S 5000 ()) (fun(b:Bool)=>b=true):=by
 refine(?_ :cz 5000 xZ _);unfold xZ;have hck:At (gm.S 5000 Cp) (fun(r:Int×ByteArray×Int)=>r.1=0):=by
  obtain⟨r,h1,h2⟩:=Option.map_eq_some_iff.1 Q6;exact⟨r,h1,h2⟩
 have hseg:FY 5000 Cp:=by
  refine⟨by decide,by decide,fun s hs=>?_,by decide,by decide,by decide,by decide⟩
  have hs:s∈[(Go.L.bq.mk [(0:Int)] [(0:Int),(1:Int)]),(Go.L.bq.mk [(0:Int),(1:Int)] [(0:Int)])]:=hs;simp only[List.mem_cons,List.not_mem_nil,or_false]at hs;rcases hs with rfl |rfl
  ·refine⟨by decide,by decide,by decide,by decide,fun b hb=>?_⟩
   simp only[List.mem_cons,List.not_mem_nil,or_false]at hb;show 0≤b∧b<2;omega
  ·refine⟨by decide,by decide,by decide,by decide,fun b hb=>?_⟩
   simp only[List.mem_cons,List.not_mem_nil,or_false]at hb;show 0≤b∧b<2;omega
 have hcm:∀r∈[EC],r.A.dy.length=3:=fun r hr=>by
  simp only[List.mem_singleton]at hr;rw[hr];rfl
 have hops:At (nU.S 5000 (Cp,0,[],[EC])) (fun(r:List aF)=>r=Kb):=by
  refine(Ll 5000 Cp 0 [] [EC] (N7 5000 Cp 0 [] [EC] 20 (by omega) hck (by decide) (by decide) hseg (by decide) (by decide) (fun r h=>by rw[hcm r h];omega) (fun r h=>by rw[List.mem_singleton.1 h];exact Ta) (by decide) (by decide) (by decide) (by decide) (by decide) (by decide) (by decide))).mono fun r hr=>?_
  rw[hr];unfold rG;rw[P0];exact KU Q8
 refine .skip (.call (fun _=>True) ⟨(),rfl,trivial⟩ fun _ _=>.skip (.call (fun _=>True) ⟨(),rfl,trivial⟩ fun _ _=>.skip (.aC (fun(r:List aF)=>r=Kb) hops fun r3 h3=>?_)))
 subst h3;exact .skip (.call (fun _=>True) ⟨(),rfl,trivial⟩ fun _ _=>.skip (.call (fun(b:Bool)=>b=true) (Dp 5000 Kb (by decide) (by decide)) fun r5 h5=>.skip (.done rfl h5)))
theorem Ox{n:Nat}{f:aG}{self:Int}{up:List Bool}{l:List aK}{p:List aF→Prop}(h:At (nU.S n (f,self,up,l)) p):At (td.S n (l,f,self,up,l.length)) p:=by
 obtain⟨r,h1,h2⟩:=h;exact⟨r,(if_pos rfl).trans h1,h2⟩
end Go.L
end
