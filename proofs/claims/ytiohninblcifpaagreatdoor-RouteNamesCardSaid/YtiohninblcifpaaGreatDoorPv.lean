/- Parts put together. No conditions. -/
import Derived.Test.YtiohninblcifpaaGreatDoorWb
import Derived.Test.YtiohninblcifpaaGreatDoorAd
import Derived.Test.YtiohninblcifpaaGreatDoorWf
set_option linter.unusedSectionVars false
set_option linter.unusedSimpArgs false
set_option linter.unusedVariables false
set_option maxRecDepth 100000
section
namespace Go.AM
section
variable {α K:Type} [DecidableEq K] (key:α→K)
variable {eq:K→K→Bool}
def BW(m:List (K×Bool))(ks:List K):Prop:=(∀p∈m,p.2=true)∧∀k,k∈m.map (·.1)↔k∈ks
theorem xB(heq:∀a b,eq a b=decide (a=b)):∀(m:List (K×Bool)) (k:K) (j i:Nat) (v:Bool),aW eq k m j=some (i,v)→j≤i∧m[i - j]? =some (k,v)
 | [],_,_,_,_,h=>by simp[aW]at h
 |p::ps,k,j,i,v,h=>by
  simp only[aW,heq,decide_eq_true_eq]at h;split at h
  ·grind
  ·obtain⟨h1,h2⟩:=xB heq ps k (j+1) i v h;grind
theorem BX(heq:∀a b,eq a b=decide (a=b)):∀(m:List (K×Bool)) (k:K) (j:Nat),aW eq k m j=none→k∉m.map (·.1)
 | [],_,_,_=>by simp
 |p::ps,k,j,h=>by
  simp only[aW,heq,decide_eq_true_eq]at h;split at h
  ·cases h
  ·rename_i hk;have:=BX heq ps k (j+1) h;grind
theorem BW.get(heq:∀a b,eq a b=decide (a=b)){m:List (K×Bool)}{ks:List K}(h:BW m ks)(k:K):((aW eq k m 0).map (·.2)).getD false=decide (k∈ks):=by
 cases hf:aW eq k m 0 with
 |none=>
  have:=BX heq m k 0 hf;rw[h.2]at this;simp[this]
 |some q=>
  obtain⟨i,v⟩:=q;obtain⟨_,h2⟩:=xB heq m k 0 i v hf;have hm:=List.mem_of_getElem? h2;have hv:=h.1 _ hm;have:k∈ks:=(h.2 k).1 (List.mem_map.2 ⟨_,hm,rfl⟩);simp only at hv;simp[this,hv]
theorem BW.put(heq:∀a b,eq a b=decide (a=b)){m:List (K×Bool)}{ks:List K}(h:BW m ks)(k:K):BW (bS eq k true m) (ks++[k]):=by
 unfold bS;split
 ·rename_i i v hf;obtain⟨_,h2⟩:=xB heq m k 0 i v hf;rw[Nat.sub_zero]at h2;refine⟨fun p hp=>?_,fun q=>?_⟩
  ·rcases List.mem_or_eq_of_mem_set hp with hp |rfl
   ·exact h.1 p hp
   ·rfl
  ·have hs:(m.set i (k,true)).map (·.1)=m.map (·.1):=by
    rw[List.map_set];apply List.ext_getElem?;intro j;by_cases hj:i=j
    ·grind
    ·rw[List.getElem?_set_ne hj]
   rw[hs,h.2];have hk:k∈ks:=(h.2 k).1 (List.mem_map.2 ⟨_,List.mem_of_getElem? h2,rfl⟩);grind
 ·refine⟨fun p hp=>?_,fun q=>?_⟩
  ·rcases List.mem_append.1 hp with hp |hp
   ·exact h.1 p hp
   ·simp at hp;subst hp;rfl
  ·simp only[List.map_append,List.map_cons,List.map_nil,List.mem_append,h.2 q]
end
section
variable {α K:Type} [DecidableEq K]
end
end Go.AM
namespace Go.L
open Go.AM
section leaves
variable {β:Type} (n:Nat)
end leaves
instance :DecidableEq (V2 Int):=fun a b=>decidable_of_iff (a.a0=b.a0∧a.a1=b.a1) ⟨fun h=>by cases a;cases b;simp_all,fun h=>by simp[h]⟩
instance :DecidableEq ah:=fun a b=>decidable_of_iff (a.IP=b.IP∧a.Len=b.Len) ⟨fun h=>by cases a;cases b;simp_all,fun h=>by simp[h]⟩
instance :DecidableEq eY:=fun a b=>decidable_of_iff (a.bd=b.bd∧a.addr=b.addr) ⟨fun h=>by cases a;cases b;simp_all,fun h=>by simp[h]⟩
instance :DecidableEq fH:=fun a b=>decidable_of_iff (a.From=b.From∧a.To=b.To∧a.ah=b.ah) ⟨fun h=>by cases a;cases b;simp_all,fun h=>by simp[h]⟩
section
variable {α K β:Type} [DecidableEq K]
end
end Go.L
namespace Go.L
open Go.AM
end Go.L
namespace Go.L
open Go.AM
end Go.L
namespace Go.L
open Go.AM
section
variable {β:Type} (n:Nat)
end
end Go.L
namespace Go.L
open Go.AM
end Go.L
namespace Go.L
open Go.AM
def out(x lo hi:Int):Bool:=decide (x<lo)||decide (hi<x)
section
variable {β:Type} (n:Nat)
end
end Go.L
namespace Go.L
open Go.AM
end Go.L
namespace Go.L
open Go.AM
end Go.L
namespace Go.L
open Go.AM
end Go.L
namespace Go.L
open Go.AM
end Go.L
end
section
namespace Go.L
open Go.AM
def Good{γ:Type}(o:Option γ)(Q:γ→Prop):Prop:=∃v,o=some v∧Q v
theorem Good.bind{γ δ:Type}{o:Option γ}{Q:γ→Prop}{k:γ→Option δ}{R:δ→Prop}(h:Good o Q)(hk:∀v,Q v→Good (k v) R):Good (o.bind k) R:=by
 obtain⟨v,rfl,hv⟩:=h;exact hk v hv
theorem Good.mono{γ:Type}{o:Option γ}{Q R:γ→Prop}(h:Good o Q)(hk:∀v,Q v→R v):Good o R:=by
 obtain⟨v,e,hv⟩:=h;exact⟨v,e,hk v hv⟩
theorem Good.some{γ:Type}{v:γ}{Q:γ→Prop}(h:Q v):Good (some v) Q:=⟨v,rfl,h⟩
end Go.L
namespace Go.L
open Go.AM
section
variable {n:Nat}
end
end Go.L
namespace Go.L
open Go.AM
def LK(L S:Int)(x:vF):Prop:=0≤x.A∧x.A<L∧L≤x.B∧x.B<L+S∧1≤x.EV∧x.EV≤2
def LL(x:vF):V2 Int:=⟨x.A,x.B⟩
def Lg(L S:Int)(l:List vF):Prop:=l.length≤32∧(∀x∈l,LK L S x)∧(l.map LL).Nodup
section
variable {n:Nat}
def MB(l:List Int):Prop:=l.Pairwise (· < ·)
def J8(m q:Int)(l:List Int):Prop:=1≤l.length∧(l.length:Int)≤q∧(∀y∈l,0≤y∧y<m)∧MB l
end
end Go.L
namespace Go.L
open Go.AM
def MC(nt:Int)(i:Int)(b:BD):Prop:=0≤b.aF∧b.aF<nt∧b.eN=10+i∧b.Target=500+i∧(b.bK=⟨0,0⟩∧b.bg=0∨b.bK=⟨167772160+i*65536,24⟩∧b.bg=167772161+i*65536)
def LM(nt:Int)(x:fH):Prop:=0≤x.From∧x.From<nt∧0≤x.To∧x.To<nt∧x.From≠x.To∧(x.ah=⟨0,0⟩∨∃t,0≤t∧t<4∧x.ah=⟨167772160+t*65536,16⟩)
def Mi(L nb:Int)(s:ew):Prop:=J8 L 3 s.Leaves∧J8 nb 4 s.aQ
def LN(II:List BD)(segs:List ew)(i:Int)(h:Host):Prop:=
 h.bU=2199023951872+i∧0≤h.BD∧h.BD<(II.length:Int)∧(h.ew= -1∨∃s,qn segs h.ew=some s∧h.BD∈s.aQ)∧
 (h.IP=0∨∃b,qn II h.BD=some b∧b.bg≠0∧h.IP=b.bK.IP+(10+i))
section
variable {n:Nat}
def Mj(nt:Int)(l:List BD):Prop:=∀(i:Nat) b,l[i]? =some b→MC nt (i:Int) b
def LO(l:List aF):Prop:=∀(i:Nat) t,l[i]? =some t→t=⟨100+(i:Int),900+(i:Int)⟩
def Lh(II:List BD)(segs:List ew)(l:List Host):Prop:=∀(i:Nat) h,l[i]? =some h→LN II segs (i:Int) h
structure Vf(f:aB):Prop where
 leaves:2≤f.Leaves∧f.Leaves≤4
 MD:1≤f.kO∧f.kO≤3
 links:Lg f.Leaves f.kO f.Links
 Mr:1≤f.bh.length∧f.bh.length≤3
 Nk:LO f.bh
 II:1≤f.aQ.length∧f.aQ.length≤4
 bd:Mj (f.bh.length:Int) f.aQ
 segments:2≤f.aP.length∧f.aP.length≤6
 seg:∀s∈f.aP,Mi f.Leaves (f.aQ.length:Int) s
 Nf:f.Hosts.length≤8
 host:Lh f.aQ f.aP f.Hosts
 leaks:f.Leaks.length≤2
 Ni:∀x∈f.Leaks,LM (f.bh.length:Int) x
 Ng:f.Leaks.Nodup
 Nh:0≤f.zx∧f.zx≤2
 Ms:0≤f.tQ∧f.tQ≤1
 ME:0≤f.cG∧f.cG≤1
 timers:1≤f.dz.uo∧f.dz.uo≤3∧f.dz.Cr=9∧40≤f.dz.EW∧f.dz.EW≤69∧f.dz.tP=20∧f.dz.zw=5∧f.dz.Window=30
end
end Go.L
namespace Go.L
open Go.AM
section
variable {f:aB} (hv:Vf f)
include hv
end
end Go.L
end
