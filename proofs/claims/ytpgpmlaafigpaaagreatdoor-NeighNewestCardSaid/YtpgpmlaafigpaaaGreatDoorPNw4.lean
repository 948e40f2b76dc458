/- NeighNewest: the law's function answers true, if Known answers the one binding. No conditions. -/
import Derived.Test.YtpgpmlaafigpaaaGreatDoorPNw3
namespace Go.L
open Go.AM
set_option maxRecDepth 100000
set_option linter.unusedVariables false
set_option linter.unusedSimpArgs false
theorem It{l:List Int}{j:Nat}(h:j<l.length){x:Int}(hx:x=(j:Int)):gi l x=some (jZ l j):=by
 subst hx;rw[bQ,List.getElem?_eq_getElem h];unfold jZ;rw[List.getElem?_eq_getElem h];rfl
theorem Qn(n:Nat)(x:Int)(h0:0≤x)(h1:x<32):At (AZ.S n x) (fun(r:Int×Int)=>r.1=184483841+x):=by
 refine(?_ :gB n (uX x) _);unfold uX;refine .skip (.br (fun h=>?_) fun _=>.skip (.br (fun h=>?_) fun _=>.skip (.done rfl ?_)))
 ·simp only[decide_eq_true_eq]at h;omega
 ·simp only[decide_eq_true_eq]at h;omega
 ·simp only[Go.IntKind.wrap_u32];omega
def MG(m:Int):Int:=Go.IntKind.wrap .u64 (Go.IntKind.wrap .i64 ((2199023255552:Int)+m))
def MH(n:Nat)(seqs:List Int):Prop:=∀(f:bH) (s:aO) (leaf bd m:Int),Vf f→gi f.aF 0=some s→leaf∈s.Leaves→bd∈s.bB→0<seqs.length→xL seqs seqs.length m→
 At (yW.S n (f,leaf,[],yZ (184483841+f.Leaves) (500+bd) seqs seqs.length)) (fun(r:List Known)=>r=[Go.L.Known.mk bd 167772237 (MG m)])
theorem Si(n:Nat)(hn:5000≤n)(nums seqs:List Int)(hK:seqs.length≤30→MH n seqs):At (rG.S n (nums,seqs)) (fun(r:Bool)=>r=true):=by
 refine(?_ :gB n (rF nums seqs) _);unfold rF;refine .skip (.call (fun _=>True) ⟨(),rfl,trivial⟩ fun _ _=>.skip (.op () rfl (.skip (.br (fun _=>.skip (.done rfl rfl)) fun _=>.skip (.op () rfl (.skip (.br (fun _=>.skip (.done rfl rfl)) fun h30=>.skip (.op () rfl (.skip (.br (fun _=>.skip (.done rfl rfl)) fun h0=>?_))))))))))
 simp only[decide_eq_false_iff_not]at h30;rw[beq_eq_false_iff_ne]at h0;have hpos:0<seqs.length:=by omega
 refine .skip (.call Vf (My nums hn) fun f hv=>?_)
 have g1:=hv.segments;have hseg:gi f.aF (0:Int)=some (f.aF[0]'(by omega)):=by
  have:=bQ f.aF 0;rw[List.getElem?_eq_getElem (by omega)]at this;exact this
 generalize hs:f.aF[0]'(by omega)=s at hseg
 have hmem:s∈f.aF:=by rw[← hs];exact List.getElem_mem _
 obtain⟨⟨a1,a2,a3,a4⟩,b1,b2,b3,b4⟩:=hv.seg s hmem;have hbd:gi s.bB (0:Int)=some (s.bB[0]'(by omega)):=by
  have:=bQ s.bB 0;rw[List.getElem?_eq_getElem (by omega)]at this;exact this
 have hlf:gi s.Leaves (0:Int)=some (s.Leaves[0]'(by omega)):=by
  have:=bQ s.Leaves 0;rw[List.getElem?_eq_getElem (by omega)]at this;exact this
 have mbd:s.bB[0]'(by omega)∈s.bB:=List.getElem_mem _
 have mlf:s.Leaves[0]'(by omega)∈s.Leaves:=List.getElem_mem _
 generalize s.bB[0]'(by omega)=bd at hbd mbd
 generalize s.Leaves[0]'(by omega)=leaf at hlf mlf
 have l1:=hv.leaves;obtain⟨w1,w2⟩:=b3 bd mbd;have hlt:bd.toNat<f.bB.length:=by omega
 have hB:=bQ f.bB bd.toNat;rw[show((bd.toNat:Nat):Int)=bd by omega,List.getElem?_eq_getElem hlt]at hB
 have hT:(f.bB[bd.toNat]'hlt).Target=500+bd:=by
  rw[(hv.bd bd.toNat _ (List.getElem?_eq_getElem hlt)).2.2.2.1];omega
 refine .skip (.op s hseg (.skip (.op bd hbd (.skip (.op s hseg (.skip (.op leaf hlf (.skip (.call _ (Qn n f.Leaves (by omega) (by omega)) fun r11 h11=>?_)))))))))
 refine .skip (.loop (fun a=>∃j:Nat,a.2.1=(j:Int)∧j≤seqs.length∧xL seqs j a.1∧a.2.2=yZ r11.1 (500+bd) seqs j) (fun a=>seqs.length - a.2.1.toNat) (fun t=>xL seqs seqs.length t.1∧t.2=yZ r11.1 (500+bd) seqs seqs.length) rfl ⟨0,rfl,Nat.zero_le _,.inl ⟨rfl,rfl⟩,rfl⟩ (by show seqs.length - 0<n;omega) (fun a ha=>?_) (fun t ht=>?_))
 ·obtain⟨j,hj,hjl,hM,hr⟩:=ha;refine .skip (.op () rfl (.skip (.br (fun h=>?_) fun h=>.skip (.done rfl ?_))))
  ·simp only[decide_eq_true_eq]at h;have hjl':j<seqs.length:=by omega
   obtain⟨k,hk,hk1,hk2,hk3⟩:=hM.idx;have hkl:k<seqs.length:=by omega
   have hlen:a.2.2.length=j:=by rw[hr];unfold yZ;simp
   have hroom:(a.2.2).length=a.2.2.length∧roomy (a.2.2.length+1) 224=true:=⟨rfl,by simp only[roomy,Bool.and_eq_true,decide_eq_true_eq];omega⟩
   have hw:Go.IntKind.wrap .i64 (a.2.1+1)=((j+1:Nat):Int):=by rw[hj,eu (by omega)]
   have hfin:∀m',xL seqs (j+1) m'→(∃j':Nat,Go.IntKind.wrap .i64 (a.2.1+1)=(j':Int)∧j'≤seqs.length∧xL seqs j' m'∧a.2.2++[CV r11.1 (500+bd) (jZ seqs j) a.2.1]=yZ r11.1 (500+bd) seqs j')∧seqs.length - (Go.IntKind.wrap .i64 (a.2.1+1)).toNat<seqs.length - a.2.1.toNat:=fun m' hm'=>by
    refine⟨⟨j+1,hw,by omega,hm',by rw[Sg,hr,hj]⟩,?_⟩
    rw[hw,hj];simp only[Int.toNat_natCast];omega
   refine .skip (.op _ (It hjl' hj) (.skip (.op _ (It hkl hk) (.skip (.br (fun hgt=>?_) fun hgt=>?_)))))
   ·simp only[decide_eq_true_eq]at hgt;refine .skip (.op _ hB (.skip (.call _ (J8 n _) fun r44 h44=>.skip (.op _ (It hjl' hj) (.skip (.call _ (Gc n _) fun r46 h46=>?_))))))
    rw[hT]at h44;subst h44;subst h46;refine .skip (.tidy rfl (.skip (.op () (if_pos hroom) (.skip (.done rfl ?_)))));have:=hfin a.2.1 (by rw[hj];exact hM.move hk hgt)
    exact this
   ·simp only[decide_eq_false_iff_not]at hgt;refine .skip (.op _ hB (.skip (.call _ (J8 n _) fun r44 h44=>.skip (.op _ (It hjl' hj) (.skip (.call _ (Gc n _) fun r46 h46=>?_))))))
    rw[hT]at h44;subst h44;subst h46;refine .skip (.tidy rfl (.skip (.op () (if_pos hroom) (.skip (.done rfl ?_)))));exact hfin a.1 (hM.stay hk hgt)
  ·simp only[decide_eq_false_iff_not]at h;have:j=seqs.length:=by omega
   subst this;exact⟨hM,hr⟩
 ·obtain⟨h1,h2⟩:=ht;have hkn:=hK (by omega) f s leaf bd t.1 hv hseg mlf mbd hpos h1
  rw[← h11,← h2]at hkn;refine .skip (.tidy ?_ (.skip (.call _ hkn fun r hr=>?_)))
  ·simp only[aI,bh,Bool.and_true];exact decide_eq_true (List.length_map ..).symm
  ·subst hr;refine .skip (.op () rfl (.skip (.br (fun _=>.skip (.op _ rfl (.skip (.done rfl ?_)))) fun h=>?_)))
   ·show((bd==bd)&&((167772237:Int)==167772237&&(MG t.1==MG t.1&&true)))=true;simp
   ·cases h
end Go.L
