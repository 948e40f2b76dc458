/- What Hops is told by a route's communities. No conditions. -/
import Derived.Test.YtiohninblcifpaaGreatDoorPl
import Derived.Test.YtiohninblcifpaaGreatDoorPx
import Derived.Test.YtiohninblcifpaaGreatDoorPc
set_option linter.unusedVariables false
set_option maxRecDepth 100000
namespace Go.L
open Go.AM
theorem SM(n:Nat)(hn:5000≤n)(f:av)(leaf:Int)(r:bZ)(h:r.A.dR.length≤20):(Kc n f leaf).rt r=Em r.A.dR:=by
 obtain⟨x,e1,e2⟩:=Sm n r.A.dR (by omega) (by omega)
 show(dY.S n r.A.dR).getD ((0,false):Int×Bool)=_;rw[e1,e2];rfl
theorem Oc{f:av}(hv:Vf f):N8 f:=by
 have hl:=hv.jB;refine⟨fun b hb=>?_,fun h hh=>?_⟩
 ·obtain⟨i,hi,rfl⟩:=List.getElem_of_mem hb;have:=hv.bd i _ (List.getElem?_eq_getElem hi);rcases this.2.2.2.2 with⟨e,_⟩ |⟨e,_⟩<;>rw[e]<;>simp only<;>omega
 ·obtain⟨i,hi,rfl⟩:=List.getElem_of_mem hh;have:=hv.host i _ (List.getElem?_eq_getElem hi);have hl2:=hv.sW;rcases this.2.2.2.2 with e |⟨b,hb,hg,e⟩
  ·rw[e];omega
  ·obtain⟨b',hb',_⟩:=Il f.aG _ this.2.1 this.2.2.1;have h2:=bq f.aG (f.Hosts[i]).BD.toNat;rw[Int.toNat_of_nonneg this.2.1,hb]at h2;have h3:=hv.bd _ b h2.symm;have:=this.2.2.1;rcases h3.2.2.2.2 with⟨_,g⟩ |⟨q,_⟩
   ·exact absurd g hg
   ·rw[e,q];simp only;omega
theorem MM(n:Nat)(hn:5000≤n)(f:av)(hv:Vf f):At (qx.S n f) (fun(r:Int×ByteArray×Int)=>r.1=0):=by
 refine(At.eq (r:=tT f) fun k=>Ob n hn f (JQ hv) (Oc hv) k).mono fun r hr=>?_
 rw[hr,JP hv]
theorem F7(n:Nat)(hn:5000≤n)(f:av)(hv:Vf f):At (xW.S n f) (fun(b:Bool)=>b=true):=by
 refine(?_ :cD n (xV f) _);unfold xV;refine .skip (.call _ (MM n hn f hv) fun r hr=>.skip (.done rfl ?_))
 rw[hr];rfl
theorem Od(n:Nat)(hn:5000≤n)(f:av)(hv:Vf f)(i:Int)(h0:0≤i)(h1:i<f.Leaves):At (zm.S n (f,i)) (fun(r:Int)=>r=xH i):=by
 have hl:=hv.leaves;have hs:=hv.zG;refine(?_ :cD n (uv f i) _);unfold uv;have hw:∀b,i≤b→At (bH.S n (i,(0:Int),b)) (fun(r:Bool)=>r=true):=fun b hb=>by
  refine(?_ :cD n (pn i 0 b) _);unfold pn;exact .skip (.br (fun _=>.skip (.done rfl (decide_eq_true hb))) fun h=>absurd h0 (by simpa using h))
 have hr:At (zl.S n i) (fun(r:Int×Int)=>r.1=xH i):=by
  refine(?_ :cD n (uu i) _);unfold uu;exact .skip (.br (fun h=>absurd h0 (by simpa using h)) fun _=>.skip (.br (fun h=>by simp only[ge_iff_le,decide_eq_true_eq]at h;omega) fun _=>.skip (.done rfl rfl)))
 refine .skip (.call _ (F7 n hn f hv) fun r3 h3=>.skip (.br (fun h=>by rw[h3]at h;cases h) fun _=>.skip (.call _ (hw _ ?_) fun r5 h5=>.skip (.br (fun h=>by rw[h5]at h;cases h) fun _=>.skip (.call _ hr fun r7 h7=>.skip (.done rfl h7))))))
 rw[wrap_i64 (by rw[wrap_i64 (by omega) (by omega)];omega) (by rw[wrap_i64 (by omega) (by omega)];omega),wrap_i64 (by omega) (by omega)];omega
end Go.L
