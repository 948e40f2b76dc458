/- Parts put together. No conditions. -/
import Derived.Test.YtiohninblcifpaaGreatDoorPo
import Derived.Test.YtiohninblcifpaaGreatDoorPv
import Derived.Test.YtiohninblcifpaaGreatDoorWx
import Derived.Test.YtiohninblcifpaaGreatDoorPc
import Derived.Test.YtiohninblcifpaaGreatDoorWr
set_option linter.unusedSectionVars false
set_option linter.unusedSimpArgs false
set_option linter.unusedVariables false
set_option maxRecDepth 100000
section
namespace Go.L
open Go.AM
theorem Li(x y:au):((x.aF==y.aF)&&((x.ah.IP==y.ah.IP)&&((x.ah.Len==y.ah.Len)&&((x.BD==y.BD)&&((x.Next==y.Next)&&((x.eN==y.eN)&&((x.bU==y.bU)&&((x.cG==y.cG)&&true))))))))=true↔x=y:=by
 obtain⟨t,⟨p,q⟩,b,nx,v,m,r⟩:=x;obtain⟨t',⟨p',q'⟩,b',nx',v',m',r'⟩:=y;simp only[Bool.and_eq_true,beq_iff_eq,au.mk.injEq,ah.mk.injEq,and_true,and_assoc]
end Go.L
end
section
namespace Go.L
open Go.AM
theorem vk(n:Nat)(l:List au)(hl:l.length<100000)(hn:l.length<n):At (kV.S n (l,l)) (fun(b:Bool)=>b=true):=by
 refine(?_ :cH n (ri l l) _);unfold ri;refine .skip (.op () rfl (.skip (.op () rfl (.skip (.br (fun h=>by simp at h) fun _=>.skip (.loop (fun a:Int=>dP l (fun _ (_:Unit)=>True) (a,())) (fun a=>l.length - a.toNat) (Sum.elim (fun _=>False) fun _=>True) rfl (dP.start trivial) (by simpa using hn) (fun a ha=>?_) (fun t ht=>?_)))))))
 ·refine .skip (.op () rfl (.skip (.br (fun h=>?_) fun h=>.skip (.done rfl trivial))))
  obtain⟨x,pre,h1,h2,_,_,h4⟩:=ha.get h;refine .skip (.op x h1 (.skip (.op x h1 (.skip (.br (fun h5=>?_) fun _=>.skip (.done rfl (h4 hl () trivial)))))))
  rw[(Li x x).2 rfl]at h5;cases h5
 ·cases t with
  |inl t=>exact ht.elim
  |inr t=>exact .skip (.done rfl rfl)
theorem Ao{l:List au}(h:l.Pairwise (fun a b=>uI a b)):eT l=l:=by
 have hs:=iZ l;refine List.Perm.eq_of_pairwise (le:=fun a b=>¬uI b a) (fun a b ha hb h1 h2=>?_) hs.2 ?_ hs.1
 ·have ha:=hs.1.mem_iff.1 ha;obtain⟨i,hi,rfl⟩:=List.getElem_of_mem ha;obtain⟨j,hj,rfl⟩:=List.getElem_of_mem hb;rw[List.pairwise_iff_getElem]at h;rcases Nat.lt_trichotomy i j with q |q |q
  ·exact absurd (h i j hi hj q) h2
  ·subst q;rfl
  ·exact absurd (h j i hj hi q) h1
 ·refine h.imp fun {a b} hab hba=>?_
  unfold uI nN at*;have:=tH hab hba;exact Ai _ this
theorem KE:((dg.S 5000 xK).map fun(r:Int×ByteArray×Int)=>r.1)=some 0:=by kernel_rfl
theorem KF:(match(dh.S 5000 Am.A.dF:Option (List Int))with |some q=>q.length |none=>21)=2:=by kernel_rfl
theorem Mn:At (dh.S 5000 Am.A.dF) (fun(q:List Int)=>q.length≤20):=by
 have h:=KF
 revert h
 generalize (dh.S 5000 Am.A.dF:Option (List Int))=o;intro h;cases o with
 |none=>cases h
 |some q=>exact⟨q,rfl,by simp only at h;omega⟩
theorem JK:kU (qq xK 0 [] (Kc 5000 xK 0) [Am])=Fj:=by kernel_rfl
theorem KG:Fj.Pairwise (fun a b=>uI a b):=by
 unfold Fj;simp only[List.pairwise_cons,List.mem_singleton,forall_eq,List.not_mem_nil,false_imp_iff,implies_true,List.Pairwise.nil,and_true];show cw _ _<0
 decide
theorem JL:At (xL.S 5000 ()) (fun(b:Bool)=>b=true):=by
 refine(?_ :cH 5000 s6 _);unfold s6;have hck:At (dg.S 5000 xK) (fun(r:Int×ByteArray×Int)=>r.1=0):=by
  obtain⟨r,h1,h2⟩:=Option.map_eq_some_iff.1 KE;exact⟨r,h1,h2⟩
 have hseg:BQ 5000 xK:=by
  refine⟨by decide,by decide,fun s hs=>?_,by decide,by decide,by decide,by decide⟩
  have hs:s∈[(Go.L.ew.mk [(0:Int)] [(0:Int),(1:Int)]),(Go.L.ew.mk [(0:Int),(1:Int)] [(0:Int)])]:=hs;simp only[List.mem_cons,List.not_mem_nil,or_false]at hs;rcases hs with rfl |rfl
  ·refine⟨by decide,by decide,by decide,by decide,fun b hb=>?_⟩
   simp only[List.mem_cons,List.not_mem_nil,or_false]at hb;show 0≤b∧b<2;omega
  ·refine⟨by decide,by decide,by decide,by decide,fun b hb=>?_⟩
   simp only[List.mem_cons,List.not_mem_nil,or_false]at hb;show 0≤b∧b<2;omega
 have hcm:∀r∈[Am],r.A.dF.length=3:=fun r hr=>by
  simp only[List.mem_singleton]at hr;rw[hr];rfl
 have hops:At (uP.S 5000 (xK,0,[],[Am])) (fun(r:List au)=>r=Fj):=by
  refine(KC 5000 xK 0 [] [Am] (IG 5000 xK 0 [] [Am] 20 (by omega) hck (by decide) (by decide) hseg (by decide) (by decide) (fun r h=>by rw[hcm r h];omega) (fun r h=>by rw[List.mem_singleton.1 h];exact Mn) (by decide) (by decide) (by decide) (by decide) (by decide) (by decide) (by decide))).mono fun r hr=>?_
  rw[hr];unfold zB;rw[JK];exact Ao KG
 refine .skip (.call (fun _=>True) ⟨(),rfl,trivial⟩ fun _ _=>.skip (.call (fun _=>True) ⟨(),rfl,trivial⟩ fun _ _=>.skip (.gM (fun(r:List au)=>r=Fj) hops fun r3 h3=>?_)))
 subst h3;exact .skip (.call (fun _=>True) ⟨(),rfl,trivial⟩ fun _ _=>.skip (.call (fun(b:Bool)=>b=true) (vk 5000 Fj (by decide) (by decide)) fun r5 h5=>.skip (.done rfl h5)))
end Go.L
end
