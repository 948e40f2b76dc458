/- NeighNewest: candidates at one place: the table has one entry. No conditions. -/
import Derived.Test.YtpgpmlaafigpaaaGreatDoorPNw1
namespace Go.L
open Go.AM
set_option maxRecDepth 100000
set_option linter.unusedVariables false
set_option linter.unusedSimpArgs false
theorem T0(p:au)(B:Nat→ak)(k most:Nat)(hk:most<k)(hb:∀i,i<k→i≠most→yt (B most) (B i))(m:List (au×ak))
 (h:TM ((List.range k).map fun i=>(p,B i)) m):m=[(p,B most)]:=by
 have hmem:(p,B most)∈m:=by
  refine(h.iff p (B most)).2 ⟨List.mem_map.2 ⟨most,List.mem_range.2 hk,rfl⟩,fun b' hb' hlt=>?_⟩
  obtain⟨i,hi,he⟩:=List.mem_map.1 hb';simp only[Prod.mk.injEq,true_and]at he;subst he;by_cases hm:i=most
  ·subst hm;exact Dv _ hlt
  ·exact Dv _ (J5 hlt (hb i (List.mem_range.1 hi) hm))
 have hall:∀x∈m,x.1=p:=fun x hx=>by
  obtain⟨h1,_⟩:=h.best x.1 x.2 hx;obtain⟨i,_,he⟩:=List.mem_map.1 h1;exact(congrArg Prod.fst he).symm
 have hnd:=h.nd
 match m,hmem,hall,hnd with
 | [],h,_,_=>cases h
 | [x],h,_,_=>rw[List.mem_singleton.1 h]
 |x::y::l,_,ha,hn=>
  have e1:=ha x (by simp)
  have e2:=ha y (by simp)
  simp only[List.map_cons,List.nodup_cons,List.mem_cons,not_or]at hn;exact absurd (e1.trans e2.symm) hn.1.1
theorem UU(p:au)(b:ak):(gA ([(p,b)].map (·.1))).map (zO [(p,b)])=[Go.L.Known.mk p.bd p.ip b.qU]:=by
 have h1:gA ([(p,b)].map (·.1))=[p]:=List.perm_singleton.1 (rz [p]).1;rw[h1];have h2:bp fS p [(p,b)] 0=some (0,b):=by
  unfold bp;rw[if_pos ((GK p p).2 rfl)]
 simp only[List.map_cons,List.map_nil,zO,Ui,h2];rfl
theorem Sf(f:bH)(leaf lo:Int)(sq:aq→Int)(tg:aq→List Int)(rs:List aq)(out:List Known)(h:Ow f leaf lo sq tg [] rs out)
 (p:au) (B:Nat→ak) (k most:Nat) (hk:most<k) (hb:∀i,i<k→i≠most→yt (B most) (B i))
 (hc:∀mm,CM (yX f) (f.aF.flatMap (sX leaf)) mm→rs.flatMap (nY mm lo sq tg)=(List.range k).map fun i=>(p,B i)):out=[Go.L.Known.mk p.bd p.ip (B most).qU]:=by
 obtain⟨mm,m,h1,h2,h3⟩:=h;have:wJ f leaf lo sq tg [] rs mm=(List.range k).map fun i=>(p,B i):=by
  unfold wJ;rw[hc mm h1];rfl
 rw[this]at h2;have:=T0 p B k most hk hb m h2;rw[h3,this,UU]
end Go.L
