/- NeighNewest: a fabric of the kit's as the table looks at it. No conditions. -/
import Derived.Test.YtpgpmlaafigpaaaGreatDoorPKn4
import Derived.Test.YtpgpmlaafigpaaaGreatDoorPVg
namespace Go.L
open Go.AM
set_option maxRecDepth 100000
set_option linter.unusedVariables false
set_option linter.unusedSimpArgs false
theorem Mz(n:Nat)(hn:5000≤n)(f:bH)(hv:Vf f):At (lG.S n f) (fun(r:Int×ByteArray×Int)=>r.1=0):=by
 refine(At.eq (r:=CU f) fun k=>Mu n hn f (TX hv) k).mono fun r hr=>?_
 rw[hr,TW hv]
theorem TY(n:Nat)(hn:5000≤n)(f:bH)(hv:Vf f):At (CO.S n f) (fun(r:Bool)=>r=true):=by
 refine(?_ :gB n (xH f) _);unfold xH;refine .skip (.call _ (Mz n hn f hv) fun r hr=>.skip (.done rfl ?_))
 rw[hr];rfl
theorem Se(n:Nat)(x y:Int)(h0:0≤x)(h1:x<y):At (eX.S n (x,y)) (fun(r:Bool)=>r=true):=by
 refine(?_ :gB n (oK x y) _);unfold oK;refine .skip (.br (fun _=>.skip (.done rfl (decide_eq_true h1))) fun h=>?_)
 simp only[decide_eq_false_iff_not]at h;omega
theorem TZ(n:Nat)(x:Int)(h0:0≤x)(h1:x<32):At (zi.S n x) (fun(r:Int)=>r=184483841+x):=by
 refine(?_ :gB n (tX x) _);unfold tX;refine .skip (.call (fun(r:Int×Int)=>r.1=184483841+x) ?_ fun r hr=>.skip (.done rfl hr))
 refine(?_ :gB n (wH x) _);unfold wH;refine .skip (.br (fun h=>?_) fun _=>.skip (.br (fun h=>?_) fun _=>.skip (.done rfl ?_)))
 ·simp only[decide_eq_true_eq]at h;omega
 ·simp only[decide_eq_true_eq]at h;omega
 ·simp only[Go.IntKind.wrap_u32];omega
theorem UT(n:Nat)(hn:5000≤n)(f:bH)(hv:Vf f)(x:Int)(h0:0≤x)(h1:x<f.Leaves):At (pM.S n (f,x)) (fun(r:Int)=>r=184483841+x):=by
 have l1:=hv.leaves;have l2:=hv.Is;refine(?_ :gB n (tY f x) _);unfold tY;refine .skip (.call _ (TY n hn f hv) fun r hr=>.skip (.br (fun h=>?_) fun _=>.skip (.call _ (Se n x _ h0 ?_) fun r2 hr2=>.skip (.br (fun h=>?_) fun _=>.skip (.call _ (TZ n x h0 (by omega)) fun r3 hr3=>.skip (.done rfl hr3))))))
 ·rw[hr]at h;cases h
 ·rw[wrap_i64 (by omega) (by omega)];omega
 ·rw[hr2]at h;cases h
theorem WG(n:Nat)(hn:5000≤n)(f:bH)(hv:Vf f):P4 n f:=by
 have h1:=hv.segments;refine⟨by omega,by omega,fun s hs=>?_⟩
 obtain⟨⟨a1,a2,a3,a4⟩,b1,b2,b3,b4⟩:=hv.seg s hs;exact⟨by omega,by omega,by omega,by omega,b3⟩
theorem MB(f:bH)(hv:Vf f)(c:Int)(h0:0≤c)(h1:c<(f.bB.length:Int)):yX f c=500+c:=by
 have hlt:c.toNat<f.bB.length:=by omega
 have hx:=bQ f.bB c.toNat;rw[show((c.toNat:Nat):Int)=c by omega,List.getElem?_eq_getElem hlt]at hx
 have:=hv.bd c.toNat _ (List.getElem?_eq_getElem hlt);unfold yX;rw[hx];show(f.bB[c.toNat]'hlt).Target=_;rw[this.2.2.2.1];omega
theorem carried(f:bH)(hv:Vf f)(s:aO)(hs:s∈f.aF)(leaf bd:Int)(hl:leaf∈s.Leaves)(hb:bd∈s.bB)(mm:List (Int×Int))(h:CM (yX f) (f.aF.flatMap (sX leaf)) mm):∃i,bp mw (500+bd) mm 0=some (i,bd):=by
 have hr:∀c∈f.aF.flatMap (sX leaf),0≤c∧c<(f.bB.length:Int):=fun c hc=>by
  obtain⟨t,ht,hc⟩:=List.mem_flatMap.1 hc;unfold sX at hc;split at hc
  ·exact(hv.seg t ht).2.2.2.1 c hc
  ·cases hc
 have hm:bd∈f.aF.flatMap (sX leaf):=List.mem_flatMap.2 ⟨s,hs,by unfold sX;rw[if_pos (by simpa using hl)];exact hb⟩
 obtain⟨q1,q2⟩:=hr bd hm;rw[← MB f hv bd q1 q2];refine h.find hm fun c hc he=>?_
 obtain⟨w1,w2⟩:=hr c hc;rw[MB f hv c w1 w2,MB f hv bd q1 q2]at he;omega
end Go.L
