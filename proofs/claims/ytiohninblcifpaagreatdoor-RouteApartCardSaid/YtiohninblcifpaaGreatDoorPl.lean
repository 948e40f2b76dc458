/- Parts put together. No conditions. -/
import Derived.Test.YtiohninblcifpaaGreatDoorPo
import Derived.Test.YtiohninblcifpaaGreatDoorPv
import Derived.Test.YtiohninblcifpaaGreatDoorWx
import Derived.Test.YtiohninblcifpaaGreatDoorPc
import Derived.Test.YtiohninblcifpaaGreatDoorWr
set_option linter.unusedSectionVars false
set_option linter.unusedSimpArgs false
set_option linter.unusedVariables false
set_option maxRecDepth 100000
section
namespace Go.L
open Go.AM
theorem Mq(n:Nat)(hn:5000≤n)(f:au)(hv:Vf f):At (fB.S n f) (fun(r:Int×ByteArray×Int)=>r.1=0):=by
 refine(At.eq (r:=tV f) fun k=>KP n hn f (KV hv) k).mono fun r hr=>?_
 rw[hr,KU hv]
theorem Sz(n:Nat)(hn:5000≤n)(f:au)(hv:Vf f):Gx n f:=by
 have h1:=hv.segments;have h2:=hv.oC;have h3:=hv.sX;refine⟨by omega,by omega,fun s hs=>?_,by omega,by omega,by omega,by omega⟩
 obtain⟨⟨a1,a2,a3,a4⟩,b1,b2,b3,b4⟩:=hv.seg s hs;have h4:=hv.leaves;exact⟨by omega,by omega,by omega,by omega,b3⟩
structure MR(rs:List bF):Prop where
 len:rs.length≤60
 comms:∀r∈rs,r.A.bT.length≤20
 path:∀r∈rs,r.A.Path.length≤20
 Vr:∀r∈rs,r.A.pX.length≤20
theorem SA(n:Nat)(hn:5000≤n)(rs:List bF):At (Ab.S n rs) (fun(b:Bool)=>b=false→MR rs):=by
 refine(?_ :cF n (uG rs) _);unfold uG;refine .skip (.op () rfl (.skip (.br (fun _=>.skip (.done rfl fun h=>(by cases h))) fun h60=>.skip ?_)))
 simp only[decide_eq_false_iff_not]at h60;refine .loop (fun a:Int=>dI rs (fun pre (_:Unit)=>∀r∈pre,r.A.bT.length≤20∧r.A.Path.length≤20∧r.A.pX.length≤20) (a,())) (fun a=>rs.length - a.toNat) (Sum.elim (fun _=>True) fun _=>∀r∈rs,r.A.bT.length≤20∧r.A.Path.length≤20∧r.A.pX.length≤20) rfl (dI.start (fun _ h=>(by cases h))) (by simp;omega) (fun a ha=>?_) (fun t ht=>?_)
 ·refine .skip (.op () rfl (.skip (.br (fun h=>?_) fun h=>.skip (.done rfl (ha.fin h)))))
  obtain⟨x,pre,h1,h2,h3,_,h4⟩:=ha.get h;refine .skip (.op x h1 (.skip (.op () rfl (.skip (.br (fun _=>.skip (.done rfl trivial)) fun p5=>.skip (.op x h1 (.skip (.op () rfl (.skip (.br (fun _=>.skip (.done rfl trivial)) fun c5=>.skip (.op x h1 (.skip (.op () rfl (.skip (.br (fun _=>.skip (.done rfl trivial)) fun h5=>.skip (.done rfl ?_))))))))))))))))
  refine h4 (by omega) () fun r hr=>?_
  simp only[decide_eq_false_iff_not]at h5 p5 c5;rcases List.mem_append.1 hr with hr |hr
  ·exact h3 r hr
  ·simp only[List.mem_singleton]at hr;subst hr;omega
 ·cases t with
  |inl t=>exact .done rfl fun h=>(by cases h)
  |inr t=>exact .skip (.done rfl fun _=>⟨by omega,fun r h=>(ht r h).1,fun r h=>(ht r h).2.1,fun r h=>(ht r h).2.2⟩)
theorem TA(x y:aG):((x.av==y.av)&&((x.ah.IP==y.ah.IP)&&((x.ah.Len==y.ah.Len)&&((x.BD==y.BD)&&((x.Next==y.Next)&&((x.bL==y.bL)&&((x.bq==y.bq)&&((x.cW==y.cW)&&true))))))))=true↔x=y:=by
 obtain⟨t,⟨p,q⟩,b,nx,v,m,r⟩:=x;obtain⟨t',⟨p',q'⟩,b',nx',v',m',r'⟩:=y;simp only[Bool.and_eq_true,beq_iff_eq,aG.mk.injEq,ah.mk.injEq,and_true,and_assoc]
noncomputable def xF(n:Nat)(f:au)(self:Int)(up:List Bool)(rs:List bF):List aG:=if 0≤self∧self<f.Leaves then yU f self up rs (Kc n f self)else[]
def NX(n:Nat)(rs:List bF):Prop:=∀r∈rs,At (dB.S n r.A.bT) (fun(q:List Int)=>q.length≤20)
theorem SB(n:Nat)(f:au)(leaf:Int)(r:bF)(h:At (dB.S n r.A.bT) (fun(q:List Int)=>q.length≤20)):((Kc n f leaf).tg r).length≤20:=by
 obtain⟨q,h1,h2⟩:=h;show((dB.S n r.A.bT).getD ([]:List Int)).length≤20;rw[h1];exact h2
theorem Px(n:Nat)(f:au)(hv:Vf f)(leaf:Int)(up:List Bool)(rs:List bF)(hr:MR rs)(ht:NX n rs):(jI f leaf up (Kc n f leaf) rs).length≤1204:=by
 unfold jI;rw[List.length_append];have h1:(xB f (zV f leaf)).length≤f.aI.length:=It _ (fun i x=>by unfold ql;split<;>simp) _
 have h2:∀(l:List bF),(∀r∈l,r∈rs)→(l.flatMap (Es f leaf up (Kc n f leaf))).length≤l.length*20:=by
  intro l;induction l with
  |nil=>intro _;simp
  |cons r l ih=>
   intro h;rw[List.flatMap_cons,List.length_append,List.length_cons,Nat.add_mul];have:=ih fun x hx=>h x (List.mem_cons_of_mem _ hx)
   have h3:=Iu f leaf up (Kc n f leaf) r;have h4:=SB n f leaf r (ht r (h r List.mem_cons_self));omega
 have:=h2 rs fun _ h=>h
 have:=hr.len;have:=hv.oC;omega
theorem Py(n:Nat)(hn:5000≤n)(f:au)(hv:Vf f)(self:Int)(up:List Bool)(rs:List bF)(hr:MR rs)(ht:NX n rs):At (pq.S n (f,self,up,rs)) (fun(r:List aG)=>r=xF n f self up rs):=by
 have hck:=Mq n hn f hv;by_cases h:0≤self∧self<f.Leaves
 ·unfold xF;rw[if_pos h];have hb:=hv.oC;have hk:=hv.leaks;have hl:=hr.len;refine Ml n f self up rs (Pk n f self up rs 20 (by omega) hck h.1 h.2 (Sz n hn f hv) (by omega) (by omega) (fun r h=>⟨by have:=hr.comms r h;omega,by have:=hr.comms r h;omega⟩) ht (by omega) (by omega) (by omega) (by omega) (by omega) (by omega) ?_)
  refine Nat.lt_of_le_of_lt (Nat.mul_le_mul (show _≤2000 by omega) (show _≤10 by omega)) (by omega)
 ·refine⟨[],?_,by unfold xF;rw[if_neg h]⟩
  have hno:KC n f self:=hck.mono fun r _=>by omega
  show Jn n (f,self,up,rs)=some [];unfold Jn;rw[if_neg (fun H=>h ⟨H.h0,H.h1⟩),if_pos hno]
theorem NY(n:Nat)(f:au)(hv:Vf f)(self:Int)(up:List Bool)(rs:List bF)(hr:MR rs)(ht:NX n rs):(xF n f self up rs).length≤3612:=by
 unfold xF;split
 ·unfold yU;rw[(jO _).1.length_eq];have hc:=Px n f hv self up rs hr ht;have hk:=hv.leaks;have hkey:=Et f self up (Kc n f self) rs;have h1:(vK f self up (Kc n f self) rs).length≤1204:=by
   unfold vK;have:=DI (jI f self up (Kc n f self) rs) [] (by simp)
   simp only[List.length_nil]at this;omega
  have h2:(oB (vK f self up (Kc n f self) rs)).length≤1204:=by unfold oB;simpa using h1
  have hn2:=GA hkey;rw[← Ky _ _ _ hn2];have h3:=(rT (Kc n f self).aT (oB (vK f self up (Kc n f self) rs)) f.Leaks (oB (vK f self up (Kc n f self) rs),kU (oB (vK f self up (Kc n f self) rs)))).1;have h4:f.Leaks.length*(oB (vK f self up (Kc n f self) rs)).length≤2*1204:=Nat.mul_le_mul hk h2;unfold Gy;simp only at h3;omega
 ·exact Nat.zero_le _
theorem UT(n:Nat)(hn:5000≤n)(f:au)(hv:Vf f)(leaf:Int)(h0:0≤leaf)(h1:leaf<f.Leaves):(Kc n f leaf).lo=KE leaf:=by
 have hl:=hv.leaves;have hs:=hv.GY;obtain⟨r,e1,e2⟩:=LH n f leaf (Mq n hn f hv) h0 h1 (by omega) (by omega)
 show(iS.S n (f,leaf)).getD (0:Int)=_;rw[e1,e2];rfl
end Go.L
end
section
namespace Go.L
open Go.AM
theorem Pz(n:Nat)(l:List aG)(hl:l.length<100000)(hn:l.length<n):At (BQ.S n (l,l)) (fun(b:Bool)=>b=true):=by
 refine(?_ :cF n (wW l l) _);unfold wW;refine .skip (.op () rfl (.skip (.op () rfl (.skip (.br (fun h=>by simp at h) fun _=>.skip (.loop (fun a:Int=>dI l (fun _ (_:Unit)=>True) (a,())) (fun a=>l.length - a.toNat) (Sum.elim (fun _=>False) fun _=>True) rfl (dI.start trivial) (by simpa using hn) (fun a ha=>?_) (fun t ht=>?_)))))))
 ·refine .skip (.op () rfl (.skip (.br (fun h=>?_) fun h=>.skip (.done rfl trivial))))
  obtain⟨x,pre,h1,h2,_,_,h4⟩:=ha.get h;refine .skip (.op x h1 (.skip (.op x h1 (.skip (.br (fun h5=>?_) fun _=>.skip (.done rfl (h4 hl () trivial)))))))
  rw[(TA x x).2 rfl]at h5;cases h5
 ·cases t with
  |inl t=>exact ht.elim
  |inr t=>exact .skip (.done rfl rfl)
theorem LQ{l:List aG}(h:l.Pairwise (fun a b=>Ba a b)):iu l=l:=by
 have hs:=jO l;refine List.Perm.eq_of_pairwise (le:=fun a b=>¬Ba b a) (fun a b ha hb h1 h2=>?_) hs.2 ?_ hs.1
 ·have ha:=hs.1.mem_iff.1 ha;obtain⟨i,hi,rfl⟩:=List.getElem_of_mem ha;obtain⟨j,hj,rfl⟩:=List.getElem_of_mem hb;rw[List.pairwise_iff_getElem]at h;rcases Nat.lt_trichotomy i j with q |q |q
  ·exact absurd (h i j hi hj q) h2
  ·subst q;rfl
  ·exact absurd (h j i hj hi q) h1
 ·refine h.imp fun {a b} hab hba=>?_
  unfold Ba tw at*;have:=sQ hab hba;exact EZ _ this
theorem SC:((fB.S 5000 CT).map fun(r:Int×ByteArray×Int)=>r.1)=some 0:=by kernel_rfl
theorem SD:(match(dB.S 5000 E4.A.bT:Option (List Int))with |some q=>q.length |none=>21)=2:=by kernel_rfl
theorem UH:At (dB.S 5000 E4.A.bT) (fun(q:List Int)=>q.length≤20):=by
 have h:=SD
 revert h
 generalize (dB.S 5000 E4.A.bT:Option (List Int))=o;intro h;cases o with
 |none=>cases h
 |some q=>exact⟨q,rfl,by simp only at h;omega⟩
theorem Re:oB (vK CT 0 [] (Kc 5000 CT 0) [E4])=KY:=by kernel_rfl
theorem SE:KY.Pairwise (fun a b=>Ba a b):=by
 unfold KY;simp only[List.pairwise_cons,List.mem_singleton,forall_eq,List.not_mem_nil,false_imp_iff,implies_true,List.Pairwise.nil,and_true];show eA _ _<0
 decide
theorem Rf:At (yu.S 5000 ()) (fun(b:Bool)=>b=true):=by
 refine(?_ :cF 5000 yt _);unfold yt;have hck:At (fB.S 5000 CT) (fun(r:Int×ByteArray×Int)=>r.1=0):=by
  obtain⟨r,h1,h2⟩:=Option.map_eq_some_iff.1 SC;exact⟨r,h1,h2⟩
 have hseg:Gx 5000 CT:=by
  refine⟨by decide,by decide,fun s hs=>?_,by decide,by decide,by decide,by decide⟩
  have hs:s∈[(Go.L.bf.mk [(0:Int)] [(0:Int),(1:Int)]),(Go.L.bf.mk [(0:Int),(1:Int)] [(0:Int)])]:=hs;simp only[List.mem_cons,List.not_mem_nil,or_false]at hs;rcases hs with rfl |rfl
  ·refine⟨by decide,by decide,by decide,by decide,fun b hb=>?_⟩
   simp only[List.mem_cons,List.not_mem_nil,or_false]at hb;show 0≤b∧b<2;omega
  ·refine⟨by decide,by decide,by decide,by decide,fun b hb=>?_⟩
   simp only[List.mem_cons,List.not_mem_nil,or_false]at hb;show 0≤b∧b<2;omega
 have hcm:∀r∈[E4],r.A.bT.length=3:=fun r hr=>by
  simp only[List.mem_singleton]at hr;rw[hr];rfl
 have hops:At (pq.S 5000 (CT,0,[],[E4])) (fun(r:List aG)=>r=KY):=by
  refine(Ml 5000 CT 0 [] [E4] (Pk 5000 CT 0 [] [E4] 20 (by omega) hck (by decide) (by decide) hseg (by decide) (by decide) (fun r h=>by rw[hcm r h];omega) (fun r h=>by rw[List.mem_singleton.1 h];exact UH) (by decide) (by decide) (by decide) (by decide) (by decide) (by decide) (by decide))).mono fun r hr=>?_
  rw[hr];unfold yU;rw[Re];exact LQ SE
 refine .skip (.call (fun _=>True) ⟨(),rfl,trivial⟩ fun _ _=>.skip (.call (fun _=>True) ⟨(),rfl,trivial⟩ fun _ _=>.skip (.bw (fun(r:List aG)=>r=KY) hops fun r3 h3=>?_)))
 subst h3;exact .skip (.call (fun _=>True) ⟨(),rfl,trivial⟩ fun _ _=>.skip (.call (fun(b:Bool)=>b=true) (Pz 5000 KY (by decide) (by decide)) fun r5 h5=>.skip (.done rfl h5)))
end Go.L
end
