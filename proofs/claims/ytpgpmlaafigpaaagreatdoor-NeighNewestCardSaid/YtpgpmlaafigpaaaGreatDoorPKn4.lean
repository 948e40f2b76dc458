/- What Known answers: the best binding of each place, in order. No conditions. -/
import Derived.Test.YtpgpmlaafigpaaaGreatDoorPKn3
namespace Go.L
open Go.AM
set_option maxRecDepth 100000
set_option linter.unusedVariables false
set_option linter.unusedSimpArgs false
def zC(f:bH)(leaf:Int)(x:Gy):List (au×ak):=
 if !x.fM then[]else match gi f.aF x.aO with
 |none=>[]
 |some s=>if decide (leaf∈s.Leaves)&&decide (x.BD∈s.bB)then[(⟨x.BD,x.IP⟩,Go.L.ak.mk x.dM true x.Time (0:Int) false (0:Int))]else[]
def Ui(m:List (au×ak))(p:au):Int:=
 (Option.getD (Option.map (fun x=>x.2) (Go.AM.bp fS p m (0:Nat))) (Go.L.ak.mk (0:Int) false (0:Int) (0:Int) false (0:Int))).qU
def zO(m:List (au×ak))(p:au):Known:=Go.L.Known.mk p.bd p.ip (Ui m p)
def wJ(f:bH)(leaf lo:Int)(sq:aq→Int)(tg:aq→List Int)(ns:List Gy)(rs:List aq)(mm:List (Int×Int)):List (au×ak):=
 ns.flatMap (zC f leaf)++rs.flatMap (nY mm lo sq tg)
def Ow(f:bH)(leaf lo:Int)(sq:aq→Int)(tg:aq→List Int)(ns:List Gy)(rs:List aq)(out:List Known):Prop:=
 ∃mm m,CM (yX f) (f.aF.flatMap (sX leaf)) mm∧TM (wJ f leaf lo sq tg ns rs mm) m∧out=(gA (m.map (·.1))).map (zO m)
theorem TD(n:Nat)(f:bH)(leaf lo:Int)(ns:List Gy)(rs:List aq)(sq:aq→Int)(tg:aq→List Int)
 (hck:At (lG.S n f) (fun(r:Int×ByteArray×Int)=>r.1=0)) (hl0:0≤leaf) (hl1:leaf<f.Leaves)
 (hlo:At (pM.S n (f,leaf)) (fun r=>r=lo)) (hf:P4 n f) (hnl:ns.length<100000) (hnn:ns.length<n) (hrl:rs.length<100000) (hrn:rs.length<n)
 (hr:∀r∈rs,At (gj.S n r.A.aY) (fun q=>q.2.1=sq r)∧At (eR.S n r.A.aY) (fun q=>q=tg r)∧(tg r).length<n∧(tg r).length<100000)
 (hc:∀mm,(wJ f leaf lo sq tg ns rs mm).length<100000∧(wJ f leaf lo sq tg ns rs mm).length<n):
 At (yW.S n (f,leaf,ns,rs)) (Ow f leaf lo sq tg ns rs):=by
 refine(?_ :gB n (yV f leaf ns rs) _);unfold yV;refine .skip (.call _ hck fun r5 h5=>.skip (.br (fun h=>?_) fun _=>.skip (.br (fun h=>?_) fun _=>.skip (.br (fun h=>?_) fun _=>.skip (.call (fun _=>True) ⟨(),rfl,trivial⟩ fun _ _=>.skip (.op () rfl (.skip ?_)))))))
 ·rw[h5]at h;cases h
 ·simp only[decide_eq_true_eq]at h;omega
 ·simp only[decide_eq_true_eq]at h;omega
 refine .loop (pq ns fun pre m=>TM (pre.flatMap (zC f leaf)) m) (fun a=>ns.length - a.1.toNat) (TM (ns.flatMap (zC f leaf))) rfl (pq.start TM.nil) (by simpa using hnn) (fun a ha=>?_) (fun m0 hm0=>?_)
 ·refine .skip (.br (fun h=>?_) fun h=>.skip (.done rfl (ha.fin h)))
  obtain⟨x,pre,h1,h2,h3,h4⟩:=ha.get h;have h4e:zC f leaf x=[]→_:=fun he=>h4 hnl a.2 (by rw[List.flatMap_append,List.flatMap_cons,he,List.flatMap_nil,List.append_nil,List.append_nil];exact h3)
  refine .skip (.op x h1 (.skip (.br (fun hi=>.skip (.br (fun hs0=>.skip (.op () rfl (.skip (.br (fun hs1=>?_) fun hs1=>.skip (.done rfl (h4e ?_)))))) fun hs0=>.skip (.done rfl (h4e ?_)))) fun hi=>.skip (.done rfl (h4e ?_)))))
  ·simp only[decide_eq_true_eq]at hs0 hs1;have hlt:x.aO.toNat<f.aF.length:=by omega
   have hat:gi f.aF x.aO=some (f.aF[x.aO.toNat]'hlt):=by
    have:=bQ f.aF x.aO.toNat;rw[show((x.aO.toNat:Nat):Int)=x.aO by omega]at this
    rw[this];exact List.getElem?_eq_getElem hlt
   generalize hs:f.aF[x.aO.toNat]'hlt=s at hat;have hmem:s∈f.aF:=by rw[← hs];exact List.getElem_mem hlt
   obtain⟨q1,q2,q3,q4,q5⟩:=hf.s s hmem;have hcn:zC f leaf x=if decide (leaf∈s.Leaves)&&decide (x.BD∈s.bB)then[(⟨x.BD,x.IP⟩,Go.L.ak.mk x.dM true x.Time (0:Int) false (0:Int))]else[]:=by
    unfold zC;rw[if_neg (by rw[hi];decide),hat]
   refine .skip (.op s hat (.skip (.call _ (B9 n s.Leaves leaf q1 q2) fun b hb=>.skip (.br (fun hb1=>.skip (.call _ (B9 n s.bB x.BD q3 q4) fun c hc'=>.skip (.br (fun hc1=>.skip (.inl (.fK (fun t=>t=Dw a.2 ⟨x.BD,x.IP⟩ (Go.L.ak.mk x.dM true x.Time (0:Int) false (0:Int))) ⟨_,Uh n a.2 _ _ _,rfl⟩ fun t ht=>.skip (.done rfl (h4 hnl _ ?_))))) fun hc1=>.skip (.done rfl (h4e ?_))))) fun hb1=>.skip (.done rfl (h4e ?_))))))
   ·rw[List.flatMap_append,List.flatMap_cons,List.flatMap_nil,List.append_nil,hcn,← hb,← hc',hb1,hc1,ht];exact h3.add _ _
   ·rw[hcn,← hc',hc1,Bool.and_false];rfl
   ·rw[hcn,← hb,hb1];rfl
  ·simp only[decide_eq_false_iff_not]at hs1;have:gi f.aF x.aO=none:=by
    cases ho:gi f.aF x.aO with
    |none=>rfl
    |some s=>
     simp only[decide_eq_true_eq]at hs0;have:=bQ f.aF x.aO.toNat;rw[show((x.aO.toNat:Nat):Int)=x.aO by omega,ho]at this
     have:=(List.getElem?_eq_some_iff.1 this.symm).1;omega
   unfold zC;rw[this];split<;>rfl
  ·simp only[decide_eq_false_iff_not]at hs0;have:gi f.aF x.aO=none:=by
    unfold gi;exact if_neg (by omega)
   unfold zC;rw[this];split<;>rfl
  ·unfold zC;rw[hi];rfl
 ·refine .skip (.inl (.fK _ (R2 n m0 _ hm0 f leaf lo rs sq tg hlo hf hrl hrn hr) fun(m:List (au×ak)) hm=>?_))
  obtain⟨mm,hmm,hm⟩:=hm;obtain⟨hc1,hc2⟩:=hc mm;have hlen:m.length≤(wJ f leaf lo sq tg ns rs mm).length:=hm.len;refine .skip (.inl (.skip (.tidy rfl (.inl (.inl (.fK (fun(y:Nat×List au)=>y=(m.length,gA (m.map (·.1)))) ⟨_,if_pos (by show m.length<1000000;omega),rfl⟩ fun(y:Nat×List au) hy=>?_))))))
  subst hy;have hsl:(gA (m.map (·.1))).length=m.length:=by rw[(rz (m.map (·.1))).1.length_eq,List.length_map]
  refine .skip (.loop (pq (gA (m.map (·.1))) fun pre t=>t=pre.map (zO m)) (fun a=>(gA (m.map (·.1))).length - a.1.toNat) (fun t=>t=(gA (m.map (·.1))).map (zO m)) rfl (pq.start rfl) (by rw[hsl];show m.length - 0<n;omega) (fun a ha=>?_) (fun t ht=>.skip (.done ?_ ⟨mm,m,hmm,hm,ht⟩)))
  ·have ha2:=ha;refine .skip (.br (fun h=>?_) fun h=>.skip (.done rfl (ha.fin (by rw[hsl];exact h))))
   obtain⟨x,pre,h1,h2,h3,h4⟩:=ha.get (by rw[hsl];exact h)
   obtain⟨i,hi,hil,hp⟩:=ha2;simp only[decide_eq_true_eq]at h;have hal:a.2.length≤m.length:=by rw[hp,List.length_map,List.length_take];omega
   have hx:(gA (m.map (·.1)))[a.1.toNat]? =some x:=by
    rw[hi]at h1 ⊢;rw[bQ]at h1;exact h1
   have hr2:roomy (a.2.length+1) 24=true:=by
    simp only[roomy,Bool.and_eq_true,decide_eq_true_eq];omega
   exact .skip (.op () (if_pos ⟨by omega,h⟩) (.op x hx (.skip (.op () rfl (.skip (.op () (if_pos ⟨rfl,hr2⟩) (.skip (.done rfl (h4 (by omega) (a.2++[zO m x]) (by rw[List.map_append,← h3];rfl))))))))))
  ·simp only[aI,bh,Bool.and_true];exact decide_eq_true (List.length_map ..).symm
end Go.L
