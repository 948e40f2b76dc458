/- Put together out of parts: What the laws of route have in common: the routes are few, the fabric is one of the kit's, Hops answers. No conditions. -/
import Derived.Test.YtiohninblcifpaaGreatDoorPo
import Derived.Test.YtiohninblcifpaaGreatDoorPv
import Derived.Test.YtiohninblcifpaaGreatDoorPs
import Derived.Test.YtiohninblcifpaaGreatDoorWx
import Derived.Test.YtiohninblcifpaaGreatDoorPc
import Derived.Test.YtiohninblcifpaaGreatDoorWr
section
namespace Go.L
open Go.AM
set_option maxRecDepth 100000
set_option linter.unusedVariables false
set_option linter.unusedSimpArgs false
set_option linter.unusedSectionVars false
theorem FT{f:aG}(hv:Vf f):Vf (mz f):=
 {leaves:=hv.leaves,Av:=hv.Av,links:=hv.links,qN:=hv.qN,GL:=hv.GL,ri:=hv.ri,bd:=hv.bd,segments:=hv.segments,seg:=hv.seg,C3:=hv.C3,host:=hv.host,
  leaks:=by simp[mz],QH:=fun x h=>(by cases h),O9:=List.nodup_nil,LS:=hv.LS,FP:=hv.FP,I9:=hv.I9,timers:=hv.timers}
theorem FU(n:Nat)(hn:5000≤n)(f:aG)(hv:Vf f):At (fI.S n f) (fun(r:Int×ByteArray×Int)=>r.1=0):=by
 refine(At.eq (r:=Au f) fun k=>I5 n hn f (OB hv) k).mono fun r hr=>?_
 rw[hr,OA hv]
theorem PN(n:Nat)(hn:5000≤n)(f:aG)(hv:Vf f):EW n f:=by
 have h1:=hv.segments;have h2:=hv.ri;have h3:=hv.qN;refine⟨by omega,by omega,fun s hs=>?_,by omega,by omega,by omega,by omega⟩
 obtain⟨⟨a1,a2,a3,a4⟩,b1,b2,b3,b4⟩:=hv.seg s hs;have h4:=hv.leaves;exact⟨by omega,by omega,by omega,by omega,b3⟩
structure MR(rs:List cz):Prop where
 len:rs.length≤60
 comms:∀r∈rs,r.A.dW.length≤20
 path:∀r∈rs,r.A.Path.length≤20
 Sq:∀r∈rs,r.A.qh.length≤20
theorem PO(n:Nat)(hn:5000≤n)(rs:List cz):At (yW.S n rs) (fun(b:Bool)=>b=false→MR rs):=by
 refine(?_ :cU n (ug rs) _);unfold ug;refine .skip (.op () rfl (.skip (.br (fun _=>.skip (.done rfl fun h=>(by cases h))) fun h60=>.skip ?_)))
 simp only[decide_eq_false_iff_not]at h60;refine .loop (fun a:Int=>dA rs (fun pre (_:Unit)=>∀r∈pre,r.A.dW.length≤20∧r.A.Path.length≤20∧r.A.qh.length≤20) (a,())) (fun a=>rs.length - a.toNat) (Sum.elim (fun _=>True) fun _=>∀r∈rs,r.A.dW.length≤20∧r.A.Path.length≤20∧r.A.qh.length≤20) rfl (dA.start (fun _ h=>(by cases h))) (by simp;omega) (fun a ha=>?_) (fun t ht=>?_)
 ·refine .skip (.op () rfl (.skip (.br (fun h=>?_) fun h=>.skip (.done rfl (ha.fin h)))))
  obtain⟨x,pre,h1,h2,h3,_,h4⟩:=ha.get h;refine .skip (.op x h1 (.skip (.op () rfl (.skip (.br (fun _=>.skip (.done rfl trivial)) fun p5=>.skip (.op x h1 (.skip (.op () rfl (.skip (.br (fun _=>.skip (.done rfl trivial)) fun c5=>.skip (.op x h1 (.skip (.op () rfl (.skip (.br (fun _=>.skip (.done rfl trivial)) fun h5=>.skip (.done rfl ?_))))))))))))))))
  refine h4 (by omega) () fun r hr=>?_
  simp only[decide_eq_false_iff_not]at h5 p5 c5;rcases List.mem_append.1 hr with hr |hr
  ·exact h3 r hr
  ·simp only[List.mem_singleton]at hr;subst hr;omega
 ·cases t with
  |inl t=>exact .done rfl fun h=>(by cases h)
  |inr t=>exact .skip (.done rfl fun _=>⟨by omega,fun r h=>(ht r h).1,fun r h=>(ht r h).2.1,fun r h=>(ht r h).2.2⟩)
theorem Jd(x y:aB):((x.av==y.av)&&((x.af.IP==y.af.IP)&&((x.af.Len==y.af.Len)&&((x.BD==y.BD)&&((x.Next==y.Next)&&((x.dz==y.dz)&&((x.bV==y.bV)&&((x.cF==y.cF)&&true))))))))=true↔x=y:=by
 obtain⟨t,⟨p,q⟩,b,nx,v,m,r⟩:=x;obtain⟨t',⟨p',q'⟩,b',nx',v',m',r'⟩:=y;simp only[Bool.and_eq_true,beq_iff_eq,aB.mk.injEq,af.mk.injEq,and_true,and_assoc]
theorem FV(n:Nat)(l:List aB)(x:aB)(hl:l.length<100000)(hn:l.length<n):At (tR.S n (l,x)) (fun(b:Bool)=>b=true↔x∈l):=by
 refine(?_ :cU n (xh l x) _);unfold xh;refine .skip (.loop (fun a:Int=>dA l (fun pre (_:Unit)=>x∉pre) (a,())) (fun a=>l.length - a.toNat) (Sum.elim (fun _=>x∈l) fun _=>x∉l) rfl (dA.start (fun h=>(by cases h))) (by simpa using hn) (fun a ha=>?_) (fun t ht=>?_))
 ·refine .skip (.op () rfl (.skip (.br (fun h=>?_) fun h=>.skip (.done rfl (ha.fin h)))))
  obtain⟨y,pre,h1,h2,h3,_,h4⟩:=ha.get h;refine .skip (.op y h1 (.skip (.br (fun he=>.skip (.done rfl ?_)) fun he=>.skip (.done rfl ?_))))
  ·rw[Jd]at he;show x∈l;rw[← he];exact h2
  ·rw[← Bool.not_eq_true,Jd]at he;refine h4 hl () fun hx=>?_
   rcases List.mem_append.1 hx with hx |hx
   ·exact h3 hx
   ·simp only[List.mem_singleton]at hx;exact he hx.symm
 ·cases t with
  |inl t=>exact .done rfl ⟨fun _=>ht,fun _=>rfl⟩
  |inr t=>exact .skip (.done rfl ⟨fun h=>(by cases h),fun h=>absurd h ht⟩)
noncomputable def oT(n:Nat)(f:aG)(self:Int)(up:List Bool)(rs:List cz):List aB:=if 0≤self∧self<f.Leaves then mw f self up rs (Kc n f self)else[]
theorem L2(n:Nat)(hn:5000≤n)(l:List (V8 Int))(h:l.length≤20):At (gE.S n l) (fun(q:List Int)=>q.length≤20):=by
 refine⟨_,JX n l (by omega) (by omega),?_⟩
 have h1:=List.length_filterMap_le qV l;have h2:∀m:List Int,(uniq m).length≤m.length:=fun m=>by
  unfold uniq Lib.compact Lib.compactUpTo;rw[List.length_map];refine Nat.le_trans (List.length_filter_le _ _) ?_;simp
 exact Nat.le_trans (h2 _) (Nat.le_trans h1 h)
theorem PS(n:Nat)(hn:5000≤n)(f:aG)(leaf:Int)(r:cz)(h:r.A.dW.length≤20):((Kc n f leaf).tg r).length≤20:=by
 obtain⟨q,h1,h2⟩:=L2 n hn r.A.dW h;show((gE.S n r.A.dW).getD ([]:List Int)).length≤20;rw[h1];exact h2
theorem Nl(n:Nat)(hn:5000≤n)(f:aG)(hv:Vf f)(leaf:Int)(up:List Bool)(rs:List cz)(hr:MR rs):(mR f leaf up (Kc n f leaf) rs).length≤1204:=by
 unfold mR;rw[List.length_append];have h1:(xL f (zi f leaf)).length≤f.aO.length:=GF _ (fun i x=>by unfold qY;split<;>simp) _
 have h2:∀(l:List cz),(∀r∈l,r∈rs)→(l.flatMap (CW f leaf up (Kc n f leaf))).length≤l.length*20:=by
  intro l;induction l with
  |nil=>intro _;simp
  |cons r l ih=>
   intro h;rw[List.flatMap_cons,List.length_append,List.length_cons,Nat.add_mul];have:=ih fun x hx=>h x (List.mem_cons_of_mem _ hx)
   have h3:=GG f leaf up (Kc n f leaf) r;have h4:=PS n hn f leaf r (hr.comms r (h r List.mem_cons_self));omega
 have:=h2 rs fun _ h=>h
 have:=hr.len;have:=hv.ri;omega
theorem Je(n:Nat)(hn:5000≤n)(f:aG)(hv:Vf f)(self:Int)(up:List Bool)(rs:List cz)(hr:MR rs):At (pO.S n (f,self,up,rs)) (fun(r:List aB)=>r=oT n f self up rs):=by
 have hck:=FU n hn f hv;by_cases h:0≤self∧self<f.Leaves
 ·unfold oT;rw[if_pos h];have hb:=hv.ri;have hk:=hv.leaks;have hl:=hr.len;refine Kr n f self up rs (M1 n f self up rs 20 (by omega) hck h.1 h.2 (PN n hn f hv) (by omega) (by omega) (fun r h=>⟨by have:=hr.comms r h;omega,by have:=hr.comms r h;omega⟩) (fun r h=>L2 n hn _ (hr.comms r h)) (by omega) (by omega) (by omega) (by omega) (by omega) (by omega) ?_)
  refine Nat.lt_of_le_of_lt (Nat.mul_le_mul (show _≤2000 by omega) (show _≤10 by omega)) (by omega)
 ·refine⟨[],?_,by unfold oT;rw[if_neg h]⟩
  have hno:IL n f self:=hck.mono fun r _=>by omega
  show Ht n (f,self,up,rs)=some [];unfold Ht;rw[if_neg (fun H=>h ⟨H.h0,H.h1⟩),if_pos hno]
theorem GO(n:Nat)(hn:5000≤n)(f:aG)(hv:Vf f)(self:Int)(up:List Bool)(rs:List cz)(hr:MR rs):(oT n f self up rs).length≤3612:=by
 unfold oT;split
 ·unfold mw;rw[(jx _).1.length_eq];have hc:=Nl n hn f hv self up rs hr;have hk:=hv.leaks;have hkey:=FJ f self up (Kc n f self) rs;have h1:(tF f self up (Kc n f self) rs).length≤1204:=by
   unfold tF;have:=Ch (mR f self up (Kc n f self) rs) [] (by simp)
   simp only[List.length_nil]at this;omega
  have h2:(pN (tF f self up (Kc n f self) rs)).length≤1204:=by unfold pN;simpa using h1
  have hn2:=EY hkey;rw[← IG _ _ _ hn2];have h3:=(rU (Kc n f self).aS (pN (tF f self up (Kc n f self) rs)) f.Leaks (pN (tF f self up (Kc n f self) rs),lE (pN (tF f self up (Kc n f self) rs)))).1;have h4:f.Leaks.length*(pN (tF f self up (Kc n f self) rs)).length≤2*1204:=Nat.mul_le_mul hk h2;unfold EX;simp only at h3;omega
 ·exact Nat.zero_le _
theorem L3(n:Nat)(p:af)(ip:Int):At (dH.S n (p,ip)) fun(b:Bool)=>b=iK p ip:=At.eq fun k=>xe n p ip k
theorem JZ(n:Nat)(p:af)(ip:Int):At (nJ.S n (p,ip)) fun(b:Bool)=>b=iK p ip:=At.eq fun k=>Jc n p ip k
def uy(p q:af):Bool:=jH p&&(jH q&&(decide (p.Len≤q.Len)&&iK p q.IP))
theorem OK(n:Nat)(p q:af):At (jG.S n (p,q)) fun(b:Bool)=>b=uy p q:=by
 refine(?_ :cU n (qA p q) _);unfold qA uy;refine .skip (.call _ (At.eq fun k=>xO n p k) fun(r:Bool) hr=>.skip (.br (fun h=>.skip (.call _ (At.eq fun k=>xO n q k) fun(s:Bool) hs=>.skip (.br (fun h2=>.skip (.br (fun h3=>.skip (.call _ (L3 n p _) fun(c:Bool) hc=>.skip (.done rfl ?_))) fun h3=>.skip (.done rfl ?_))) fun h2=>.skip (.done rfl ?_)))) fun h=>.skip (.done rfl ?_)))
 ·rw[← hr,h,← hs,h2,h3,hc];rfl
 ·rw[← hr,h,← hs,h2,h3];rfl
 ·rw[← hr,h,← hs,h2];rfl
 ·rw[← hr,h];rfl
theorem GP(n:Nat)(p q:af):At (vU.S n (p,q)) fun(b:Bool)=>b=uy p q:=by
 refine(?_ :cU n (vT p q) _);unfold vT uy;refine .skip (.call _ (At.eq fun k=>Cy n p k) fun(r:Bool) hr=>.skip (.br (fun h=>.skip (.call _ (At.eq fun k=>Cy n q k) fun(s:Bool) hs=>.skip (.br (fun h2=>.skip (.br (fun h3=>.skip (.call _ (JZ n p _) fun(c:Bool) hc=>.skip (.done rfl ?_))) fun h3=>.skip (.done rfl ?_))) fun h2=>.skip (.done rfl ?_)))) fun h=>.skip (.done rfl ?_)))
 ·rw[← hr,h,← hs,h2,h3,hc];rfl
 ·rw[← hr,h,← hs,h2,h3];rfl
 ·rw[← hr,h,← hs,h2];rfl
 ·rw[← hr,h];rfl
theorem QW(n:Nat)(f:aG)(leaf:Int)(p q:af):(Kc n f leaf).aS p q=uy p q:=by
 obtain⟨r,h1,h2⟩:=OK n p q;show(jG.S n (p,q)).getD false=_;rw[h1,h2];rfl
end Go.L
end
section
namespace Go.L
open Go.AM
set_option maxRecDepth 100000
set_option linter.unusedVariables false
set_option linter.unusedSimpArgs false
theorem Nn(n:Nat)(l:List aB)(hl:l.length<100000)(hn:l.length<n):At (Ay.S n (l,l)) (fun(b:Bool)=>b=true):=by
 refine(?_ :cU n (vV l l) _);unfold vV;refine .skip (.op () rfl (.skip (.op () rfl (.skip (.br (fun h=>by simp at h) fun _=>.skip (.loop (fun a:Int=>dA l (fun _ (_:Unit)=>True) (a,())) (fun a=>l.length - a.toNat) (Sum.elim (fun _=>False) fun _=>True) rfl (dA.start trivial) (by simpa using hn) (fun a ha=>?_) (fun t ht=>?_)))))))
 ·refine .skip (.op () rfl (.skip (.br (fun h=>?_) fun h=>.skip (.done rfl trivial))))
  obtain⟨x,pre,h1,h2,_,_,h4⟩:=ha.get h;refine .skip (.op x h1 (.skip (.op x h1 (.skip (.br (fun h5=>?_) fun _=>.skip (.done rfl (h4 hl () trivial)))))))
  rw[(Jd x x).2 rfl]at h5;cases h5
 ·cases t with
  |inl t=>exact ht.elim
  |inr t=>exact .skip (.done rfl rfl)
theorem J1{l:List aB}(h:l.Pairwise (fun a b=>zL a b)):hU l=l:=by
 have hs:=jx l;refine List.Perm.eq_of_pairwise (le:=fun a b=>¬zL b a) (fun a b ha hb h1 h2=>?_) hs.2 ?_ hs.1
 ·have ha:=hs.1.mem_iff.1 ha;obtain⟨i,hi,rfl⟩:=List.getElem_of_mem ha;obtain⟨j,hj,rfl⟩:=List.getElem_of_mem hb;rw[List.pairwise_iff_getElem]at h;rcases Nat.lt_trichotomy i j with q |q |q
  ·exact absurd (h i j hi hj q) h2
  ·subst q;rfl
  ·exact absurd (h j i hj hi q) h1
 ·refine h.imp fun {a b} hab hba=>?_
  unfold zL s7 at*;have:=xK hab hba;exact Dx _ this
theorem PT:((fI.S 5000 Bv).map fun(r:Int×ByteArray×Int)=>r.1)=some 0:=by kernel_rfl
theorem ON:pN (tF Bv 0 [] (Kc 5000 Bv 0) [Jg])=Jh:=by kernel_rfl
theorem PV:Jh.Pairwise (fun a b=>zL a b):=by
 unfold Jh;simp only[List.pairwise_cons,List.mem_singleton,forall_eq,List.not_mem_nil,false_imp_iff,implies_true,List.Pairwise.nil,and_true];show eY _ _<0
 decide
theorem OO:At (xl.S 5000 ()) (fun(b:Bool)=>b=true):=by
 refine(?_ :cU 5000 xk _);unfold xk;have hck:At (fI.S 5000 Bv) (fun(r:Int×ByteArray×Int)=>r.1=0):=by
  obtain⟨r,h1,h2⟩:=Option.map_eq_some_iff.1 PT;exact⟨r,h1,h2⟩
 have hseg:EW 5000 Bv:=by
  refine⟨by decide,by decide,fun s hs=>?_,by decide,by decide,by decide,by decide⟩
  have hs:s∈[(Go.L.bh.mk [(0:Int)] [(0:Int),(1:Int)]),(Go.L.bh.mk [(0:Int),(1:Int)] [(0:Int)])]:=hs;simp only[List.mem_cons,List.not_mem_nil,or_false]at hs;rcases hs with rfl |rfl
  ·refine⟨by decide,by decide,by decide,by decide,fun b hb=>?_⟩
   simp only[List.mem_cons,List.not_mem_nil,or_false]at hb;show 0≤b∧b<2;omega
  ·refine⟨by decide,by decide,by decide,by decide,fun b hb=>?_⟩
   simp only[List.mem_cons,List.not_mem_nil,or_false]at hb;show 0≤b∧b<2;omega
 have hcm:∀r∈[Jg],r.A.dW.length=3:=fun r hr=>by
  simp only[List.mem_singleton]at hr;rw[hr];rfl
 have hops:At (pO.S 5000 (Bv,0,[],[Jg])) (fun(r:List aB)=>r=Jh):=by
  refine(Kr 5000 Bv 0 [] [Jg] (M1 5000 Bv 0 [] [Jg] 20 (by omega) hck (by decide) (by decide) hseg (by decide) (by decide) (fun r h=>by rw[hcm r h];omega) (fun r h=>L2 5000 (Nat.le_refl _) _ (by rw[hcm r h];omega)) (by decide) (by decide) (by decide) (by decide) (by decide) (by decide) (by decide))).mono fun r hr=>?_
  rw[hr];unfold mw;rw[ON];exact J1 PV
 refine .skip (.call (fun _=>True) ⟨(),rfl,trivial⟩ fun _ _=>.skip (.call (fun _=>True) ⟨(),rfl,trivial⟩ fun _ _=>.skip (.aF (fun(r:List aB)=>r=Jh) hops fun r3 h3=>?_)))
 subst h3;exact .skip (.call (fun _=>True) ⟨(),rfl,trivial⟩ fun _ _=>.skip (.call (fun(b:Bool)=>b=true) (Nn 5000 Jh (by decide) (by decide)) fun r5 h5=>.skip (.done rfl h5)))
end Go.L
end
