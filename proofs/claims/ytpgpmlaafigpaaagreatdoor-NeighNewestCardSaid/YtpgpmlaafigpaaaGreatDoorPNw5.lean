/- NeighNewest: Known answers the one binding, if the communities read back. No conditions. -/
import Derived.Test.YtpgpmlaafigpaaaGreatDoorPNw4
namespace Go.L
open Go.AM
set_option maxRecDepth 100000
set_option linter.unusedVariables false
set_option linter.unusedSimpArgs false
def Reads(n:Nat):Prop:=∀t s:Int,500≤t→t≤600→0≤s→s<4294967296→
 At (gj.S n [yx t,tI s]) (fun(q:Bool×Int×Bool)=>q.2.1=s)∧At (eR.S n [yx t,tI s]) (fun(q:List Int)=>q=[t])
noncomputable def Sj(n:Nat)(r:aq):Int:=((gj.S n r.A.aY:Option (Bool×Int×Bool)).map (fun q=>q.2.1)).getD 0
noncomputable def Sk(n:Nat)(r:aq):List Int:=(eR.S n r.A.aY:Option (List Int)).getD []
theorem OA(i:Nat)(h:i<100):MG (i:Int)=2199023255552+(i:Int):=by
 unfold MG;rw[wrap_i64 (by omega) (by omega),Go.IntKind.wrap_u64];omega
theorem MI(n:Nat)(hn:5000≤n)(seqs:List Int)(hs:∀x∈seqs,0≤x∧x<4294967296)(hl:seqs.length≤30)(hR:Reads n):MH n seqs:=by
 intro f s leaf bd m hv hseg hlf hbd hpos hM;have hmem:s∈f.aF:=by
  have:=bQ f.aF 0;rw[show((0:Nat):Int)=0 from rfl,hseg]at this;exact List.mem_of_getElem? this.symm
 obtain⟨⟨a1,a2,a3,a4⟩,b1,b2,b3,b4⟩:=hv.seg s hmem;obtain⟨w1,w2⟩:=b3 bd hbd;obtain⟨v1,v2⟩:=a3 leaf hlf;have l1:=hv.leaves;have l2:=hv.vp;have hsa:∀i,0≤jZ seqs i∧jZ seqs i<4294967296:=fun i=>by
  unfold jZ;cases h:seqs[i]? with
  |none=>exact⟨by decide,by decide⟩
  |some x=>exact hs x (List.mem_of_getElem? h)
 have hq:∀(i:Nat),Sj n (CV (184483841+f.Leaves) (500+bd) (jZ seqs i) (i:Int))=jZ seqs i∧Sk n (CV (184483841+f.Leaves) (500+bd) (jZ seqs i) (i:Int))=[500+bd]:=fun i=>by
  obtain⟨⟨q,e1,e2⟩,⟨g,e3,e4⟩⟩:=hR (500+bd) (jZ seqs i) (by omega) (by omega) (hsa i).1 (hsa i).2
  refine⟨?_,?_⟩
  ·show((gj.S n [yx (500+bd),tI (jZ seqs i)]:Option (Bool×Int×Bool)).map (fun q=>q.2.1)).getD 0=_
   rw[show(gj.S n [yx (500+bd),tI (jZ seqs i)]:Option (Bool×Int×Bool))=some q from e1];exact e2
  ·show(eR.S n [yx (500+bd),tI (jZ seqs i)]:Option (List Int)).getD []=_;rw[show(eR.S n [yx (500+bd),tI (jZ seqs i)]:Option (List Int))=some g from e3];exact e4
 have hrl:(yZ (184483841+f.Leaves) (500+bd) seqs seqs.length).length=seqs.length:=by unfold yZ;simp
 have hcR:∀mm (i:Nat),nY mm (184483841+leaf) (Sj n) (Sk n) (CV (184483841+f.Leaves) (500+bd) (jZ seqs i) (i:Int))=oN mm (CV (184483841+f.Leaves) (500+bd) (jZ seqs i) (i:Int)) (jZ seqs i) (500+bd):=fun mm i=>by
  unfold nY;rw[(hq i).1,(hq i).2,if_neg (by show ¬((2:Int) != 2)=true;decide),if_neg (by show ¬(!true)=true;decide),if_neg (by show ¬((184483841+f.Leaves)==(184483841+leaf))=true;rw[beq_iff_eq];omega)]
  simp
 have hall:∀mm,wJ f leaf (184483841+leaf) (Sj n) (Sk n) [] (yZ (184483841+f.Leaves) (500+bd) seqs seqs.length) mm=(List.range seqs.length).flatMap fun i=>oN mm (CV (184483841+f.Leaves) (500+bd) (jZ seqs i) (i:Int)) (jZ seqs i) (500+bd):=fun mm=>by
  unfold wJ yZ;rw[List.flatMap_map];simp only[List.flatMap_nil,List.nil_append,hcR]
 have hct:∀mm r sq T,(oN mm r sq T).length≤1:=fun mm r sq T=>by unfold oN;split<;>simp
 have hlen:∀(mm:List (Int×Int)) (l:List Nat),(l.flatMap fun i=>oN mm (CV (184483841+f.Leaves) (500+bd) (jZ seqs i) (i:Int)) (jZ seqs i) (500+bd)).length≤l.length:=fun mm l=>by
  induction l with
  |nil=>exact Nat.le_refl _
  |cons x l ih=>rw[List.flatMap_cons,List.length_append,List.length_cons];have:=hct mm (CV (184483841+f.Leaves) (500+bd) (jZ seqs x) (x:Int)) (jZ seqs x) (500+bd);omega
 refine(TD n f leaf (184483841+leaf) [] _ (Sj n) (Sk n) (Mz n hn f hv) v1 v2 (UT n hn f hv leaf v1 v2) (WG n hn f hv) (by decide) (by show 0<n;omega) (by rw[hrl];omega) (by rw[hrl];omega) (fun r hr=>?_) (fun mm=>?_)).mono fun out hout=>?_
 ·obtain⟨i,hi,rfl⟩:=List.mem_map.1 hr;obtain⟨e1,e2⟩:=hR (500+bd) (jZ seqs i) (by omega) (by omega) (hsa i).1 (hsa i).2
  rw[(hq i).1,(hq i).2];exact⟨e1,e2,by show 1<n;omega,by show 1<100000;omega⟩
 ·rw[hall];have:=hlen mm (List.range seqs.length);rw[List.length_range]at this;omega
 ·rcases hM with⟨h0,_⟩ |⟨k,rfl,hk,hbest⟩
  ·omega
  ·have:=Sf f leaf (184483841+leaf) (Sj n) (Sk n) _ out hout ⟨bd,167772237⟩ (fun i=>zB (CV (184483841+f.Leaves) (500+bd) (jZ seqs i) (i:Int)) (jZ seqs i)) seqs.length k hk (fun i hi hne=>?_) (fun mm hmm=>?_)
   ·exact this
   ·have m1:(zB (CV (184483841+f.Leaves) (500+bd) (jZ seqs k) (k:Int)) (jZ seqs k)).qU=2199023255552+(k:Int):=OA k (by omega)
    have m2:(zB (CV (184483841+f.Leaves) (500+bd) (jZ seqs i) (i:Int)) (jZ seqs i)).qU=2199023255552+(i:Int):=OA i (by omega)
    unfold yt;refine .inr ⟨rfl,.inr ⟨rfl,?_⟩⟩;rcases hbest i hi hne with h |⟨h,h'⟩
    ·exact .inl h
    ·refine .inr ⟨h,.inr ⟨rfl,.inr ⟨rfl,?_⟩⟩⟩;rw[m1,m2];omega
   ·have h1:=hall mm;unfold wJ at h1;rw[List.flatMap_nil,List.nil_append]at h1;rw[h1];obtain⟨i,hi⟩:=carried f hv s hmem leaf bd hlf hbd mm hmm;have hc:∀r sq,oN mm r sq (500+bd)=[(⟨bd,r.N.IP⟩,zB r sq)]:=fun r sq=>by unfold oN;rw[hi]
    simp only[hc];rw[← List.map_eq_flatMap];rfl
end Go.L
