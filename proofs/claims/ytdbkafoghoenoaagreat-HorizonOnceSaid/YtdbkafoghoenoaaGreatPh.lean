/- Parts put together. No conditions. -/
import Derived.Test.YtdbkafoghoenoaaGreatWh
import Derived.Test.YtdbkafoghoenoaaGreatPv
import Derived.Test.YtdbkafoghoenoaaGreatPa
set_option linter.unusedSectionVars false
set_option linter.unusedSimpArgs false
set_option linter.unusedVariables false
set_option maxRecDepth 100000
section
namespace Go.L
open Go.AM
theorem _root_.Go.AM.AtG.eqi{P:Program}[Globs]{ρ:Type}{n:Nat}{p:ρ→Prop}{d:Tmp}{ki:Go.IntKind}{x c:Int}{t f:G P ρ}(ht:x=c→AtG n t p)(hf:x≠c→AtG n f p):AtG n (.eqi d ki x c t f) p:=
 At.ite (f:=t.run n) (g:=f.run n) ht hf
theorem check_v(n:Nat)(hn:5000≤n)(f:Fabric)(hv:Vf f):At (c_tenant_Check.S n f) (fun(r:Int×ByteArray×Int)=>r.1=0):=by
 refine(At.eq (r:=checkS f) fun k=>tenant_Check n hn f (vf_small hv) k).mono fun r hr=>?_
 rw[hr,vf_check hv]
structure VW(v:horizon_view):Prop where
 seg:∀s x,at? v.Fabric.Segments s=some x→x.Leaves.length≤4000
 fw:v.forwarders.length≤4000
 sh:v.sharing.length≤4000
 mem:∀x∈v.sharing,x.Members.length≤4000
section
variable (n:Nat) (hn:5000≤n) (v:horizon_view) (hv:VW v) (s:Int) (x:Segment) (hx:at? v.Fabric.Segments s=some x)
include hn hv hx
end
def OwnI(f:Fabric)(leaf:Int)(up:List Bool)(bd nt:Int)(i:Nat)(l:List Int):Prop:=
 (l.Pairwise (· < ·)∧l.length≤i)∧∀s∈l,0≤s∧s<(i:Int)∧s≠nt∧∃x,at? f.Segments s=some x∧at? up s=some true∧leaf∈x.Leaves∧bd∈x.BDs
theorem OwnI.next{f:Fabric}{leaf:Int}{up:List Bool}{bd nt:Int}{i:Nat}{l:List Int}(h:OwnI f leaf up bd nt i l):OwnI f leaf up bd nt (i+1) l:=
 ⟨⟨h.1.1,by have:=h.1.2;omega⟩,fun s hs=>by obtain⟨h1,h2,h3⟩:=h.2 s hs;exact⟨h1,by omega,h3⟩⟩
theorem OwnI.add{f:Fabric}{leaf:Int}{up:List Bool}{bd nt:Int}{i:Nat}{l:List Int}(h:OwnI f leaf up bd nt i l){x:Segment}(h1:(i:Int)≠nt)(h2:at? f.Segments (i:Int)=some x)(h3:at? up (i:Int)=some true)(h4:leaf∈x.Leaves)(h5:bd∈x.BDs):OwnI f leaf up bd nt (i+1) (l++[(i:Int)]):=by
 refine⟨⟨List.pairwise_append.2 ⟨h.1.1,List.pairwise_singleton _ _,fun a ha b hb=>?_⟩,by have:=h.1.2;simp;omega⟩,fun s hs=>?_⟩
 ·simp only[List.mem_singleton]at hb;have:=(h.2 a ha).2.1;omega
 ·rcases List.mem_append.1 hs with hs |hs
  ·exact h.next.2 s hs
  ·simp only[List.mem_singleton]at hs;subst hs;exact⟨by omega,by omega,h1,x,h2,h3,h4,h5⟩
end Go.L
end
section
namespace Go.L
open Go.AM
theorem app_v{l:List Int}{x:Int}{n b ver nid:Nat}{e:Int→List AVal}{ids:List Nat}(h:l.length≤100):(appO (List.length l) l [x] e n 8 b ver nid ids).run=some ():=
 if_pos ⟨rfl,by simp[roomy];omega⟩
theorem seg_small{f:Fabric}(hv:Vf f)(s:Int)(x:Segment)(h:at? f.Segments s=some x):x.Leaves.length≤4000∧x.BDs.length≤4000:=by
 have hm:x∈f.Segments:=by
  unfold at? at h;split at h
  ·exact List.mem_of_getElem? h
  ·cases h
 obtain⟨⟨a1,a2,a3,a4⟩,b1,b2,b3,b4⟩:=hv.seg x hm;have:=hv.leaves;have:=hv.bds;omega
end Go.L
end
section
namespace Go.L
open Go.AM
section
variable (n:Nat) (hn:5000≤n) (e:horizon_leaving) (hv:VW e.view) (s:Int) (x:Segment) (hx:at? e.view.Fabric.Segments s=some x)
include hn hv hx
end
end Go.L
end
section
namespace Go.L
open Go.AM
end Go.L
end
