/- Parts put together. No conditions. -/
import Derived.Test.YtdbkafoghoenoaaGreatPh
import Derived.Test.YtdbkafoghoenoaaGreatWh
set_option linter.unusedSectionVars false
set_option linter.unusedSimpArgs false
set_option linter.unusedVariables false
set_option maxRecDepth 100000
section
namespace Go.L
open Go.AM
theorem wrapU(x:Int):IntKind.wrap .u32 x=x % 4294967296:=by simp[IntKind.wrap,IntKind.bits,IntKind.signed]
def lpV(x:Int):Int:=IntKind.wrap .u32 ((IntKind.wrap .u32 ((184483840:Int)+(IntKind.wrap .u32 x)))+(1:Int))
def esV(s:Int):V10 Int:= @V10.mk Int 3 0 0 0 0 0 0 0 0 (IntKind.wrap .u8 (IntKind.wrap .i64 (s+1)))
def mulP(x:Segment):Bool:=decide ((1:Int)<((x.Leaves.length:Nat):Int))
theorem lpV_inj{a b:Int}(a0:0≤a)(a1:a<4)(b0:0≤b)(b1:b<4)(h:lpV a=lpV b):a=b:=by
 have ha:a=0∨a=1∨a=2∨a=3:=by omega
 have hb:b=0∨b=1∨b=2∨b=3:=by omega
 rcases ha with rfl |rfl |rfl |rfl<;>rcases hb with rfl |rfl |rfl |rfl<;>first |rfl |exact absurd h (by decide)
theorem esV_inj{a b:Int}(a0:0≤a)(a1:a<6)(b0:0≤b)(b1:b<6)(h:esV a=esV b):a=b:=by
 have ha:a=0∨a=1∨a=2∨a=3∨a=4∨a=5:=by omega
 have hb:b=0∨b=1∨b=2∨b=3∨b=4∨b=5:=by omega
 have h9:(esV a).a9=(esV b).a9:=by rw[h]
 rcases ha with rfl |rfl |rfl |rfl |rfl |rfl<;>rcases hb with rfl |rfl |rfl |rfl |rfl |rfl<;>first |rfl |exact absurd h9 (by decide)
theorem lp_at(n:Nat)(x:Int)(h0:0≤x)(h1:x<32):At (c_addr_Loopback.S n x) (fun(r:Int×Int)=>r.1=lpV x):=by
 refine(?_ :AtG n (g_addr_Loopback x) _);exact .skip (.br (fun h=>(by simp only[decide_eq_true_eq]at h;omega)) fun _=>.skip (.br (fun h=>(by simp only[decide_eq_true_eq]at h;omega)) fun _=>.skip (.done rfl rfl)))
theorem lpl_at(n:Nat)(x:Int)(h0:0≤x)(h1:x<32):At (c_law27_loopback.S n x) (fun(r:Int)=>r=lpV x):=by
 refine(?_ :AtG n (g_law27_loopback x) _);exact .skip (.call _ (lp_at n x h0 h1) fun r hr=>.skip (.done rfl hr))
theorem valid_x(n:Nat)(hn:5000≤n)(f:Fabric)(hv:Vf f):At (c_tenant_valid.S n f) (fun b:Bool=>b=true):=by
 refine(?_ :AtG n (g_tenant_valid f) _);exact .skip (.call _ (check_v n hn f hv) fun r hr=>.skip (.done rfl (by rw[hr];rfl)))
theorem within_x(n:Nat)(x m:Int)(h0:0≤x)(h1:x<m):At (c_tenant_within.S n (x,m)) (fun b:Bool=>b=true):=
 (At.eq (r:=decide (0≤x)&&decide (x<m)) fun k=>tenant_within n x m k).mono fun r hr=>by rw[hr];simp[h0,h1]
theorem lpt_at(n:Nat)(hn:5000≤n)(f:Fabric)(hv:Vf f)(x:Int)(h0:0≤x)(h1:x<f.Leaves):At (c_tenant_Loopback.S n (f,x)) (fun r:Int=>r=lpV x):=by
 have hL:=hv.leaves;have hS:=hv.spines;have hlo:At (c_tenant_loopback.S n x) (fun r:Int=>r=lpV x):=(.skip (.call _ (lp_at n x h0 (by omega)) fun r hr=>.skip (.done rfl hr)):AtG n (g_tenant_loopback x) _)
 have hw:IntKind.wrap .i64 (f.Leaves+f.Spines)=f.Leaves+f.Spines:=wrap_i64 (by omega) (by omega)
 refine(?_ :AtG n (g_tenant_Loopback f x) _);exact .skip (.call _ (valid_x n hn f hv) fun b hb=>.skip (.br (fun h=>(by rw[hb]at h;cases h)) fun _=>.skip (.call _ (within_x n x _ h0 (by rw[hw];omega)) fun c hc=>.skip (.br (fun h=>(by rw[hc]at h;cases h)) fun _=>.skip (.call _ hlo fun r hr=>.skip (.done rfl hr))))))
theorem look_x(n:Nat)(hn:5000≤n)(f:Fabric)(hv:Vf f)(leaf:Int)(h0:0≤leaf)(h1:leaf<f.Leaves):At (c_horizon_look.S n (f,leaf)) (fun(r:horizon_view×Bool)=>r=(⟨f,leaf,lpV leaf,[],[],[]⟩,true)):=by
 refine(?_ :AtG n (g_horizon_look f leaf) _);refine .skip (.call _ (check_v n hn f hv) fun r hr=>.skip (.call _ (lpt_at n hn f hv leaf h0 h1) fun q hq=>.skip (.br (fun _=>.skip (.br (fun _=>.skip (.done rfl ?_)) fun h=>(by simp only[decide_eq_false_iff_not]at h;omega))) fun h=>(by rw[hr]at h;cases h))))
 rw[hq,show decide (leaf<f.Leaves)=true from decide_eq_true h1]
theorem es_at(n:Nat)(s:Int)(h0:0≤s)(h1:s<64):At (c_addr_SegmentESI.S n s) (fun(r:V10 Int×Int)=>r.1=esV s):=by
 refine(?_ :AtG n (g_addr_SegmentESI s) _);exact .skip (.br (fun h=>(by simp only[decide_eq_true_eq]at h;omega)) fun _=>.skip (.br (fun h=>(by simp only[decide_eq_true_eq]at h;omega)) fun _=>.skip (.done rfl rfl)))
theorem seg_idx{f:Fabric}(hv:Vf f){s:Int}{x:Segment}(h:at? f.Segments s=some x):0≤s∧s<(f.Segments.length:Int)∧s<6∧x∈f.Segments:=by
 unfold at? at h;split at h
 ·rename_i h0;have:=(List.getElem?_eq_some_iff.1 h).1;have:=hv.segments;exact⟨h0,by omega,by omega,List.mem_of_getElem? h⟩
 ·cases h
theorem tmul_at(n:Nat)(f:Fabric)(s:Int)(x:Segment)(hv:Vf f)(hx:at? f.Segments s=some x):At (c_tenant_multihomed.S n (f,s)) (fun(b:Bool)=>b=mulP x):=by
 obtain⟨i0,i1,i2,_⟩:=seg_idx hv hx;refine(?_ :AtG n (g_tenant_multihomed f s) _);exact .skip (.op () rfl (.call _ (within_x n s _ i0 i1) fun b hb=>.skip (.br (fun _=>.skip (.op x hx (.skip (.op () rfl (.skip (.done rfl rfl)))))) fun h=>(by rw[hb]at h;cases h))))
theorem tMul_at(n:Nat)(hn:5000≤n)(f:Fabric)(s:Int)(x:Segment)(hv:Vf f)(hx:at? f.Segments s=some x):At (c_tenant_Multihomed.S n (f,s)) (fun(b:Bool)=>b=mulP x):=by
 refine(?_ :AtG n (g_tenant_Multihomed f s) _);exact .skip (.call _ (valid_x n hn f hv) fun b hb=>.skip (.br (fun _=>.skip (.call _ (tmul_at n f s x hv hx) fun r hr=>.skip (.done rfl hr))) fun h=>(by rw[hb]at h;cases h)))
theorem tesi_at(n:Nat)(hn:5000≤n)(f:Fabric)(s:Int)(x:Segment)(hv:Vf f)(hx:at? f.Segments s=some x)(hm:mulP x=true):At (c_tenant_ESI.S n (f,s)) (fun(e:V10 Int)=>e=esV s):=by
 obtain⟨i0,i1,i2,_⟩:=seg_idx hv hx;refine(?_ :AtG n (g_tenant_ESI f s) _);exact .skip (.call _ (valid_x n hn f hv) fun b hb=>.skip (.br (fun h=>(by rw[hb]at h;cases h)) fun _=>.skip (.call _ (tmul_at n f s x hv hx) fun r hr=>.skip (.br (fun h=>(by rw[hr,hm]at h;cases h)) fun _=>.skip (.call _ (es_at n s i0 (by omega)) fun e he=>.skip (.done rfl he))))))
theorem mark_at(n:Nat)(hn:5000≤n)(f:Fabric)(s:Int)(x:Segment)(hv:Vf f)(hx:at? f.Segments s=some x):At (c_horizon_Mark.S n (f,s)) (fun(m:Int)=>f.Horizon=1→m=if mulP x=true then s+1 else 0):=by
 obtain⟨i0,i1,i2,_⟩:=seg_idx hv hx;have hl:At (c_tenant_Label.S n (f,s)) (fun(m:Int)=>m=if mulP x=true then s+1 else 0):=by
  refine(?_ :AtG n (g_tenant_Label f s) _);refine .skip (.call _ (valid_x n hn f hv) fun b hb=>.skip (.br (fun h=>(by rw[hb]at h;cases h)) fun _=>.skip (.call _ (tmul_at n f s x hv hx) fun r hr=>.skip (.br (fun h=>.skip (.done rfl ?_)) fun h=>.skip (.done rfl ?_)))))
  ·rw[← hr];cases r
   ·rfl
   ·cases h
  ·rw[← hr];cases r
   ·cases h
   ·show IntKind.wrap .u32 ((IntKind.wrap .u32 s)+1)=if true=true then s+1 else 0
    rw[wrapU,wrapU,if_pos rfl];omega
 refine(?_ :AtG n (g_horizon_Mark f s) _);exact .skip (.br (fun h=>.skip (.done rfl fun h1=>(by rw[h1]at h;cases h))) fun _=>.skip (.call _ hl fun m hm=>.skip (.done rfl fun _=>hm)))
theorem idx_fwx(n:Nat)(hn:5000≤n)(l:List Forwarder)(hl:l.length≤4000)(e:V10 Int)(bd:Int):At (c_slices_IndexFunc_Forwarder_Forwarder.S n (l,e.a0,e.a1,e.a2,e.a3,e.a4,e.a5,e.a6,e.a7,e.a8,e.a9,bd)) (fun(r:Int)=>(r<0∧∀y∈l,¬(y.ESI=e∧y.BD=bd))∨(0≤r∧∃y,at? l r=some y∧y∈l∧y.ESI=e∧y.BD=bd)):=by
 refine(?_ :AtG n (g_slices_IndexFunc_Forwarder_Forwarder l e.a0 e.a1 e.a2 e.a3 e.a4 e.a5 e.a6 e.a7 e.a8 e.a9 bd) _);unfold g_slices_IndexFunc_Forwarder_Forwarder;refine .skip (.op () rfl (.skip (.loop (fun a:Int=>IdxI l (fun pre (_:Unit)=>∀y∈pre,¬(y.ESI=e∧y.BD=bd)) (a,())) (fun a=>l.length - a.toNat) (Sum.elim (fun r:Int=>0≤r∧∃y,at? l r=some y∧y∈l∧y.ESI=e∧y.BD=bd) fun _=>∀y∈l,¬(y.ESI=e∧y.BD=bd)) rfl (IdxI.start (fun y h=>(by cases h))) (by simp;omega) (fun a ha=>?_) fun t ht=>?_)))
 ·refine .skip (.br (fun h=>?_) fun h=>.skip (.done rfl (ha.fin h)))
  obtain⟨x,pre,h1,h2,h3,⟨h5,_⟩,h4⟩:=ha.get h
  replace h5:a=((pre.length:Nat):Int):=h5
  refine .skip (.op x h1 (.skip (.call (fun b:Bool=>b=true↔(x.ESI=e∧x.BD=bd)) ?_ fun r hr=>.br (fun hb=>.skip (.done rfl ⟨by omega,x,h1,h2,hr.1 hb⟩)) fun hb=>.skip (.done rfl (h4 (by omega) () fun y hy=>?_)))))
  ·have heq:((x.ESI.a0==e.a0)&&((x.ESI.a1==e.a1)&&((x.ESI.a2==e.a2)&&((x.ESI.a3==e.a3)&&((x.ESI.a4==e.a4)&&((x.ESI.a5==e.a5)&&((x.ESI.a6==e.a6)&&((x.ESI.a7==e.a7)&&((x.ESI.a8==e.a8)&&((x.ESI.a9==e.a9)&&true))))))))))=true↔x.ESI=e:=by
    obtain⟨⟨_,_,_,_,_,_,_,_,_,_⟩,_,_⟩:=x;obtain⟨_,_,_,_,_,_,_,_,_,_⟩:=e;simp
   refine(?_ :AtG n (g_horizon_view_forwards_1 x e.a0 e.a1 e.a2 e.a3 e.a4 e.a5 e.a6 e.a7 e.a8 e.a9 bd) _);exact .skip (.br (fun h=>.skip (.done rfl ⟨fun hb=>⟨heq.1 h,eq_of_beq hb⟩,fun hb=>by rw[hb.2];exact beq_self_eq_true bd⟩)) fun h=>.skip (.done rfl ⟨fun hb=>(by cases hb),fun hb=>by rw[heq.2 hb.1]at h;cases h⟩))
  ·rcases List.mem_append.1 hy with hy |hy
   ·exact h3 y hy
   ·simp only[List.mem_singleton]at hy;subst hy;intro hc;rw[hr.2 hc]at hb;cases hb
 ·cases t with
  |inl t=>exact .done rfl (.inr ht)
  |inr t=>exact .skip (.done rfl (.inl ⟨(by show(-1:Int)<0;omega),ht⟩))
theorem idx_shx(n:Nat)(hn:5000≤n)(l:List Sharing)(hl:l.length≤4000)(e:V10 Int):At (c_slices_IndexFunc_Sharing_Sharing.S n (l,e.a0,e.a1,e.a2,e.a3,e.a4,e.a5,e.a6,e.a7,e.a8,e.a9)) (fun(r:Int)=>(r<0∧∀y∈l,¬(y.ESI=e))∨(0≤r∧∃y,at? l r=some y∧y∈l∧y.ESI=e)):=by
 refine(?_ :AtG n (g_slices_IndexFunc_Sharing_Sharing l e.a0 e.a1 e.a2 e.a3 e.a4 e.a5 e.a6 e.a7 e.a8 e.a9) _);unfold g_slices_IndexFunc_Sharing_Sharing;refine .skip (.op () rfl (.skip (.loop (fun a:Int=>IdxI l (fun pre (_:Unit)=>∀y∈pre,¬(y.ESI=e)) (a,())) (fun a=>l.length - a.toNat) (Sum.elim (fun r:Int=>0≤r∧∃y,at? l r=some y∧y∈l∧y.ESI=e) fun _=>∀y∈l,¬(y.ESI=e)) rfl (IdxI.start (fun y h=>(by cases h))) (by simp;omega) (fun a ha=>?_) fun t ht=>?_)))
 ·refine .skip (.br (fun h=>?_) fun h=>.skip (.done rfl (ha.fin h)))
  obtain⟨x,pre,h1,h2,h3,⟨h5,_⟩,h4⟩:=ha.get h
  replace h5:a=((pre.length:Nat):Int):=h5
  refine .skip (.op x h1 (.skip (.call (fun b:Bool=>b=true↔x.ESI=e) ⟨_,rfl,?_⟩ fun r hr=>.br (fun hb=>.skip (.done rfl ⟨by omega,x,h1,h2,hr.1 hb⟩)) fun hb=>.skip (.done rfl (h4 (by omega) () fun y hy=>?_)))))
  ·obtain⟨⟨_,_,_,_,_,_,_,_,_,_⟩,_,_⟩:=x;obtain⟨_,_,_,_,_,_,_,_,_,_⟩:=e;simp
  ·rcases List.mem_append.1 hy with hy |hy
   ·exact h3 y hy
   ·simp only[List.mem_singleton]at hy;subst hy;intro hc;rw[hr.2 hc]at hb;cases hb
 ·cases t with
  |inl t=>exact .done rfl (.inr ht)
  |inr t=>exact .skip (.done rfl (.inl ⟨(by show(-1:Int)<0;omega),ht⟩))
theorem cont_ipx(n:Nat)(hn:5000≤n)(l:List Int)(hl:l.length≤4000)(v:Int):At (c_slices_Contains_IP_IP.S n (l,v)) (fun b:Bool=>b=true↔v∈l):=by
 have h:At (c_slices_Index_IP_IP.S n (l,v)) (fun r:Int=>(0≤r∧v∈l)∨(r<0∧v∉l)):=by
  refine(?_ :AtG n (g_slices_Index_IP_IP l v) _);unfold g_slices_Index_IP_IP;refine .skip (.op () rfl (.skip (.loop (fun a:Int=>IdxI l (fun pre (_:Unit)=>v∉pre) (a,())) (fun a=>l.length - a.toNat) (Sum.elim (fun r:Int=>0≤r∧v∈l) fun _=>v∉l) rfl (IdxI.start (fun h=>(by cases h))) (by simp;omega) (fun a ha=>?_) fun t ht=>?_)))
  ·refine .skip (.br (fun h=>?_) fun h=>.skip (.done rfl (ha.fin h)))
   obtain⟨x,pre,h1,h2,h3,⟨h5,_⟩,h4⟩:=ha.get h
   replace h5:a=((pre.length:Nat):Int):=h5
   refine .skip (.op x h1 (.skip (.br (fun hb=>.skip (.done rfl ⟨by omega,by rw[eq_of_beq hb];exact h2⟩)) fun hb=>.skip (.done rfl (h4 (by omega) () fun hy=>?_)))))
   rcases List.mem_append.1 hy with hy |hy
   ·exact h3 hy
   ·simp only[List.mem_singleton]at hy;rw[hy]at hb;simp at hb
  ·cases t with
   |inl t=>exact .done rfl (.inl ht)
   |inr t=>exact .skip (.done rfl (.inr ⟨(by show(-1:Int)<0;omega),ht⟩))
 refine(?_ :AtG n (g_slices_Contains_IP_IP l v) _);refine .skip (.call _ h fun(r:Int) hr=>.skip (.done rfl ?_))
 rcases hr with⟨h0,h1⟩ |⟨h0,h1⟩
 ·exact⟨fun _=>h1,fun _=>decide_eq_true h0⟩
 ·exact⟨fun hb=>absurd (of_decide_eq_true hb) (by omega),fun hb=>absurd hb h1⟩
end Go.L
end
section
namespace Go.L
open Go.AM
def upB(ups:List (List Bool))(n s:Int):Bool:=((at? ups n).bind fun r=>at? r s).getD false
def mbV(ups:List (List Bool))(s:Int)(x:Segment):List Int:=(x.Leaves.filter fun n=>upB ups n s).map lpV
def pkV(ups:List (List Bool))(ch s:Int)(x:Segment)(d:Int):Int:=(at? (mbV ups s x) ((IntKind.wrap .i64 ((IntKind.wrap .i64 (ch+s))+d)) % ((mbV ups s x).length:Int))).getD 0
structure UpsV(f:Fabric)(ups:List (List Bool)):Prop where
 len:((ups.length:Nat):Int)=f.Leaves
 row:∀r∈ups,r.length=f.Segments.length
structure AgS(f:Fabric)(ups:List (List Bool))(ch:Int)(k:Nat)(fw:List Forwarder)(sh:List Sharing):Prop where
 fl:fw.length≤4*k
 sl:sh.length≤k
 hf:∀y,y∈fw↔∃s x d,at? f.Segments s=some x∧s<(k:Int)∧mulP x=true∧mbV ups s x≠[]∧d∈x.BDs∧y=⟨esV s,d,pkV ups ch s x d⟩
 hs:∀y,y∈sh↔∃s x,at? f.Segments s=some x∧s<(k:Int)∧mulP x=true∧mbV ups s x≠[]∧y=⟨esV s,mbV ups s x,[]⟩
section
variable {f:Fabric} {ups:List (List Bool)} {ch:Int} {k:Nat} {fw:List Forwarder} {sh:List Sharing}
theorem AgS.same(h:AgS f ups ch k fw sh){x:Segment}(hx:at? f.Segments (k:Int)=some x)(hno:mulP x=true→mbV ups (k:Int) x=[]):AgS f ups ch (k+1) fw sh:=by
 have key:∀{s:Int} {x':Segment},at? f.Segments s=some x'→s<((k+1:Nat):Int)→mulP x'=true→mbV ups s x'≠[]→s<(k:Int):=fun {s x'} h1 h2 h3 h4=>by
  by_cases he:s=(k:Int)
  ·subst he;rw[hx]at h1;cases h1;exact absurd (hno h3) h4
  ·omega
 refine⟨by have:=h.fl;omega,by have:=h.sl;omega,fun y=>(h.hf y).trans ⟨?_,?_⟩,fun y=>(h.hs y).trans ⟨?_,?_⟩⟩
 ·rintro⟨s,x',d,h1,h2,h3,h4,h5,h6⟩;exact⟨s,x',d,h1,by omega,h3,h4,h5,h6⟩
 ·rintro⟨s,x',d,h1,h2,h3,h4,h5,h6⟩;exact⟨s,x',d,h1,key h1 h2 h3 h4,h3,h4,h5,h6⟩
 ·rintro⟨s,x',h1,h2,h3,h4,h6⟩;exact⟨s,x',h1,by omega,h3,h4,h6⟩
 ·rintro⟨s,x',h1,h2,h3,h4,h6⟩;exact⟨s,x',h1,key h1 h2 h3 h4,h3,h4,h6⟩
theorem AgS.more(h:AgS f ups ch k fw sh){x:Segment}(hx:at? f.Segments (k:Int)=some x)(hm:mulP x=true)(hmb:mbV ups (k:Int) x≠[])(hb:x.BDs.length≤4){l:List Forwarder}(hl:l.length≤fw.length+x.BDs.length)
 (hy:∀y,y∈l↔y∈fw∨∃d∈x.BDs,y=⟨esV (k:Int),d,pkV ups ch (k:Int) x d⟩):AgS f ups ch (k+1) l (sh++[⟨esV (k:Int),mbV ups (k:Int) x,[]⟩]):=by
 refine⟨by have:=h.fl;omega,by have:=h.sl;simp;omega,fun y=>(hy y).trans ⟨?_,?_⟩,fun y=>List.mem_append.trans ⟨?_,?_⟩⟩
 ·rintro(h0 |⟨d,hd,rfl⟩)
  ·obtain⟨s,x',d,h1,h2,h3,h4,h5,h6⟩:=(h.hf y).1 h0;exact⟨s,x',d,h1,by omega,h3,h4,h5,h6⟩
  ·exact⟨k,x,d,hx,by omega,hm,hmb,hd,rfl⟩
 ·rintro⟨s,x',d,h1,h2,h3,h4,h5,h6⟩;by_cases he:s=(k:Int)
  ·subst he;rw[hx]at h1;cases h1;exact .inr ⟨d,h5,h6⟩
  ·exact .inl ((h.hf y).2 ⟨s,x',d,h1,by omega,h3,h4,h5,h6⟩)
 ·rintro(h0 |h0)
  ·obtain⟨s,x',h1,h2,h3,h4,h6⟩:=(h.hs y).1 h0;exact⟨s,x',h1,by omega,h3,h4,h6⟩
  ·exact⟨k,x,hx,by omega,hm,hmb,List.mem_singleton.1 h0⟩
 ·rintro⟨s,x',h1,h2,h3,h4,h6⟩;by_cases he:s=(k:Int)
  ·subst he;rw[hx]at h1;cases h1;exact .inr (List.mem_singleton.2 h6)
  ·exact .inl ((h.hs y).2 ⟨s,x',h1,by omega,h3,h4,h6⟩)
end
theorem at_get{α:Type}{l:List α}{i:Int}(h0:0≤i)(h1:i<(l.length:Int)):∃x,at? l i=some x∧x∈l:=
 ⟨l[i.toNat]'(by omega),by unfold at?;rw[if_pos h0];exact List.getElem?_eq_getElem (by omega),List.getElem_mem _⟩
theorem up_get{f:Fabric}{ups:List (List Bool)}(hu:UpsV f ups){n s:Int}(n0:0≤n)(n1:n<f.Leaves)(s0:0≤s)(s1:s<(f.Segments.length:Int)):∃r,at? ups n=some r∧r∈ups∧at? r s=some (upB ups n s):=by
 obtain⟨r,h1,h2⟩:=at_get (l:=ups) n0 (by rw[hu.len];exact n1)
 obtain⟨b,h3,_⟩:=at_get (l:=r) s0 (by rw[hu.row r h2];exact s1)
 exact⟨r,h1,h2,by rw[h3];simp[upB,h1,h3]⟩
theorem app_vx{X:Type}{l:List X}{x:X}{n b by_ ver nid:Nat}{e:X→List AVal}{ids:List Nat}(h:l.length≤1000)(hb:by_≤1000):(appO (List.length l) l [x] e n by_ b ver nid ids).run=some ():=by
 refine if_pos ⟨rfl,?_⟩;have:(l.length+[x].length)*by_≤1001*1000:=Nat.mul_le_mul (by simp;omega) hb
 simp only[roomy,Bool.and_eq_true,decide_eq_true_eq];exact⟨by omega,by simp;omega⟩
theorem frz_ok{X:Type}{s b v n:Nat}{l:List X}{e:X→List AVal}{h:∀x,AVal.pureL (e x)=true}:tsOk [.frz (fzRow (.s s) b v n (List.length l) l e h)]=true:=by
 simp[tsOk,fzRow]
theorem agreed_at(n:Nat)(hn:5000≤n)(f:Fabric)(hv:Vf f)(ups:List (List Bool))(hu:UpsV f ups)(ch:Int):At (c_law27_agreed.S n (f,ups,ch)) (fun(r:List Forwarder×List Sharing)=>AgS f ups ch f.Segments.length r.1 r.2):=by
 have hsg:=hv.segments;have hL:=hv.leaves;refine(?_ :AtG n (g_law27_agreed f ups ch) _);unfold g_law27_agreed;refine .skip (.loop (fun a:Int×List Forwarder×List Sharing=>IdxI f.Segments (fun pre (p:List Forwarder×List Sharing)=>AgS f ups ch pre.length p.1 p.2) a) (fun a=>f.Segments.length - a.1.toNat) (fun p:List Forwarder×List Sharing=>AgS f ups ch f.Segments.length p.1 p.2) rfl (IdxI.start ⟨by simp,by simp,fun y=>⟨fun h=>(by cases h),?_⟩,fun y=>⟨fun h=>(by cases h),?_⟩⟩) (by simp;omega) (fun a ha=>?_) (fun t ht=>?_))
 ·rintro⟨s,x,d,h1,h2,_⟩;have:=(seg_idx hv h1).1;simp at h2;omega
 ·rintro⟨s,x,h1,h2,_⟩;have:=(seg_idx hv h1).1;simp at h2;omega
 ·refine .skip (.op () rfl (.skip (.br (fun h=>?_) fun h=>.skip (.done rfl (ha.fin h)))))
  obtain⟨x,pre,h1,h2,h3,⟨h5,_⟩,h4⟩:=ha.get h;have hk:at? f.Segments ((pre.length:Nat):Int)=some x:=by rw[← h5];exact h1
  obtain⟨i0,i1,i2,_⟩:=seg_idx hv hk;obtain⟨⟨a1,a2,a3,a4⟩,b1,b2,b3,b4⟩:=hv.seg x h2;have stay:(mulP x=true→mbV ups ((pre.length:Nat):Int) x=[])→_:=fun hno=>h4 (by omega) a.2 (by simpa using h3.same hk hno)
  refine .skip (.call _ (tMul_at n hn f a.1 x hv h1) fun r hr=>.skip (.br (fun hm=>.skip (.done rfl (stay fun hq=>?_))) fun hm=>.skip ?_))
  ·rw[hr,hq]at hm;cases hm
  have hmul:mulP x=true:=by rw[hr]at hm;simpa using hm
  refine .loop (fun c:Int×List Int=>IdxI x.Leaves (fun q l=>l=(q.filter fun m=>upB ups m a.1).map lpV) c) (fun c=>x.Leaves.length - c.1.toNat) (fun l:List Int=>l=mbV ups a.1 x) rfl (IdxI.start rfl) (by simp;omega) (fun c hc=>?_) (fun t ht=>?_)
  ·refine .skip (.op x h1 (.skip (.op () rfl (.skip (.br (fun g=>?_) fun g=>.skip (.done rfl (hc.fin g)))))))
   obtain⟨m,q,g1,g2,g3,_,g4⟩:=hc.get g;obtain⟨m0,m1⟩:=a3 m g2;obtain⟨row,e1,_,e3⟩:=up_get hu m0 m1 (s:=a.1) (by rw[h5];omega) (by rw[h5];omega)
   have hql:q.length≤3:=by
    have:c.1<(x.Leaves.length:Int):=by simpa using g
    obtain⟨_,_,_,_,_,⟨z,_⟩,_⟩:=hc.get g;omega
   refine .skip (.op x h1 (.skip (.op m g1 (.skip (.op row e1 (.skip (.op _ e3 (.skip (.br (fun hb=>.skip (.call _ (lpl_at n m m0 (by omega)) fun r hr=>.skip (.op () (app_vx ?_ (by omega)) (.skip (.done rfl (g4 (by omega) _ ?_)))))) fun hb=>.skip (.done rfl (g4 (by omega) _ ?_)))))))))))
   ·rw[g3];have:=List.length_filter_le (fun m=>upB ups m a.1) q
    simp;omega
   ·rw[hr,g3,List.filter_append,List.map_append];simp[hb]
   ·rw[g3,List.filter_append,List.map_append];simp[hb]
  ·refine .skip (.br (fun h0=>.skip (.done rfl (stay fun _=>?_))) fun h0=>.skip (.call _ (tesi_at n hn f a.1 x hv h1 hmul) fun e he=>.tidy frz_ok (.skip (.tidy rfl (.op () (app_vx ?_ (by omega)) (.skip ?_))))))
   ·rw[← h5,← ht];exact List.length_eq_zero_iff.1 (by have:=eq_of_beq h0;omega)
   ·have:=h3.sl;omega
   have hne:mbV ups ((pre.length:Nat):Int) x≠[]:=by
    rw[← h5,← ht];intro hc;rw[hc]at h0;cases h0
   have htl:(0:Int)<((t.length:Nat):Int):=by
    rw[ht,h5];have:=List.length_pos_iff.2 hne;omega
   have htl2:t.length≤3:=by
    rw[ht];have:=List.length_filter_le (fun m=>upB ups m a.1) x.Leaves
    simp[mbV];omega
   refine .loop (fun c:Int×List Forwarder=>IdxI x.BDs (fun q l=>l.length≤a.2.1.length+q.length∧∀y,y∈l↔y∈a.2.1∨∃d∈q,y=⟨esV a.1,d,pkV ups ch a.1 x d⟩) c) (fun c=>x.BDs.length - c.1.toNat) (fun l:List Forwarder=>l.length≤a.2.1.length+x.BDs.length∧∀y,y∈l↔y∈a.2.1∨∃d∈x.BDs,y=⟨esV a.1,d,pkV ups ch a.1 x d⟩) rfl (IdxI.start ⟨by simp,fun y=>by simp⟩) (by simp;omega) (fun c hc=>?_) (fun l hl=>?_)
   ·refine .skip (.op x h1 (.skip (.op () rfl (.skip (.br (fun g=>?_) fun g=>.skip (.done rfl (hc.fin g)))))))
    obtain⟨d,q,g1,g2,⟨g3,g3'⟩,⟨g5,_⟩,g4⟩:=hc.get g;have hql:q.length≤4:=by
     have:c.1<(x.BDs.length:Int):=by simpa using g
     omega
    have hm0:=Int.emod_nonneg (IntKind.wrap .i64 ((IntKind.wrap .i64 (ch+a.1))+d)) (show((t.length:Nat):Int)≠0 by omega)
    have hm1:=Int.emod_lt_of_pos (IntKind.wrap .i64 ((IntKind.wrap .i64 (ch+a.1))+d)) htl;obtain⟨ip,e1,e2⟩:=at_get hm0 hm1;refine .skip (.op x h1 (.skip (.op d g1 (.skip (.call _ (tesi_at n hn f a.1 x hv h1 hmul) fun e' he'=>.skip (.op () rfl (.call (fun r:Int=>r=(IntKind.wrap .i64 ((IntKind.wrap .i64 (ch+a.1))+d)) % ((t.length:Nat):Int)) ⟨_,kit_Mod n _ _ htl (by omega),rfl⟩ fun r hr=>.op ip (by rw[hr];exact e1) (.skip (.op () (app_vx ?_ (by omega)) (.skip (.done rfl (g4 (by omega) _ ⟨?_,fun y=>?_⟩))))))))))))
    ·have:=h3.fl;omega
    ·simp;omega
    ·have hp:pkV ups ch a.1 x d=ip:=by
      unfold pkV;rw[← ht,e1];rfl
     rw[he',List.mem_append,g3' y];constructor
     ·rintro((h0 |⟨d',hd,rfl⟩) |h0)
      ·exact .inl h0
      ·exact .inr ⟨d',List.mem_append_left _ hd,rfl⟩
      ·exact .inr ⟨d,by simp,by rw[hp];exact List.mem_singleton.1 h0⟩
     ·rintro(h0 |⟨d',hd,rfl⟩)
      ·exact .inl (.inl h0)
      ·rcases List.mem_append.1 hd with hd |hd
       ·exact .inl (.inr ⟨d',hd,rfl⟩)
       ·rw[List.mem_singleton.1 hd,hp];exact .inr (List.mem_singleton.2 rfl)
   ·refine .skip (.done rfl (h4 (by omega) _ ?_))
    have:=h3.more hk hmul hne (by omega) (l:=l) (ch:=ch) hl.1 (by rw[← h5];exact hl.2)
    rw[← h5,← ht,← he]at this;simpa using this
 ·exact .skip (.done (by simp[tsOk,fzRow]) ht)
end Go.L
end
section
namespace Go.L
open Go.AM
theorem cont_x(n:Nat)(hn:5000≤n)(l:List Int)(x:Int)(hl:l.length≤4000):At (c_slices_Contains_int_int.S n (l,x)) (fun(b:Bool)=>b=true↔x∈l):=by
 refine(At.eq (r:=l.any fun y=>x==y) fun k=>contains_int n l x (by omega) hl k).mono fun r hr=>?_
 rw[hr,List.any_eq_true];exact⟨fun⟨y,hy,he⟩=>by rw[eq_of_beq he];exact hy,fun h=>⟨x,h,beq_self_eq_true x⟩⟩
def fwP(ups:List (List Bool))(ch:Int)(x:Segment)(leaf bd s:Int):Prop:=mulP x=true→pkV ups ch s x bd=lpV leaf
section
variable (n:Nat) (hn:5000≤n) {f:Fabric} (hv:Vf f) {ups:List (List Bool)} {ch:Int} {fw:List Forwarder} {sh:List Sharing} (ha:AgS f ups ch f.Segments.length fw sh) (v:horizon_view) (hf:v.Fabric=f)
 {s:Int} {x:Segment} (hx:at? f.Segments s=some x)
include hn hv ha hf hx
theorem mul_x:At (c_horizon_view_multihomed.S n (v,s)) (fun b:Bool=>b=mulP x):=by
 refine(?_ :AtG n (g_horizon_view_multihomed v s) _);exact .skip (.op x (by rw[hf];exact hx) (.skip (.op () rfl (.skip (.done rfl rfl)))))
theorem esi_x:At (c_horizon_view_esi.S n (v,s)) (fun e:V10 Int=>e=esV s):=by
 obtain⟨i0,i1,i2,_⟩:=seg_idx hv hx;refine(?_ :AtG n (g_horizon_view_esi v s) _);exact .skip (.call _ (es_at n s i0 (by omega)) fun e he=>.skip (.done rfl he))
theorem forw_x{leaf bd:Int}(hl:v.leaf=leaf)(ho:v.own=lpV leaf)(hw:v.forwarders=fw)(h1:leaf∈x.Leaves)(h2:bd∈x.BDs)(hu:upB ups leaf s=true):At (c_horizon_view_forwards.S n (v,bd,s)) (fun b:Bool=>b=true↔fwP ups ch x leaf bd s):=by
 obtain⟨i0,i1,i2,_⟩:=seg_idx hv hx;have hmb:mbV ups s x≠[]:=List.ne_nil_of_mem (a:=lpV leaf) (List.mem_map.2 ⟨leaf,List.mem_filter.2 ⟨h1,hu⟩,rfl⟩);have hsl:=hv.segments;have hfl:=ha.fl;refine(?_ :AtG n (g_horizon_view_forwards v bd s) _);refine .skip (.op x (by rw[hf];exact hx) (.skip (.call _ (cont_x n hn x.Leaves _ (seg_small hv s x hx).1) fun b hb=>.skip (.br (fun h=>?_) fun _=>.skip (.call _ (mul_x n hn hv ha v hf hx) fun m hm=>.skip (.br (fun h=>.skip (.done rfl ?_)) fun h=>.skip (.call _ (esi_x n hn hv ha v hf hx) fun e he=>.skip (.call _ (idx_fwx n hn _ (by rw[hw];omega) e bd) fun(r:Int) hr=>.skip (.br (fun h0=>?_) fun h0=>?_)))))))))
 ·rw[hl]at hb;rw[hb.2 h1]at h;cases h
 ·exact⟨fun _ hc=>(by rw[hm,hc]at h;cases h),fun _=>rfl⟩
 ·have hmul:mulP x=true:=by rw[hm]at h;simpa using h
  rcases hr with⟨hr,_⟩ |⟨_,y,g1,g2,g3,g4⟩
  ·simp only[decide_eq_true_eq]at h0;omega
  rw[hw]at g2;obtain⟨s',x',d,k1,k2,k3,k4,k5,k6⟩:=(ha.hf y).1 g2;obtain⟨j0,j1,j2,_⟩:=seg_idx hv k1;have hs:s'=s:=esV_inj j0 j2 i0 i2 (by rw[← he,← g3,k6])
  subst hs;rw[hx]at k1;cases k1;have hd:d=bd:=by rw[← g4,k6]
  subst hd;refine .skip (.op y g1 (.skip (.done rfl ?_)));rw[ho,k6];exact⟨fun hb _=>eq_of_beq hb,fun hb=>by rw[show pkV ups ch s' x d=lpV leaf from hb hmul];exact beq_self_eq_true _⟩
 ·have hmul:mulP x=true:=by rw[hm]at h;simpa using h
  rcases hr with⟨_,hr⟩ |⟨hr,_⟩
  ·rw[hw,he]at hr;exact absurd ⟨rfl,rfl⟩ (hr _ ((ha.hf ⟨esV s,bd,pkV ups ch s x bd⟩).2 ⟨s,x,bd,hx,i1,hmul,hmb,h2,rfl⟩))
  ·simp only[decide_eq_false_iff_not]at h0;omega
theorem memb_x(hw:v.sharing=sh)(hmb:mbV ups s x≠[])(ip:Int):At (c_horizon_view_member.S n (v,s,ip)) (fun b:Bool=>b=true↔mulP x=true∧ip∈mbV ups s x):=by
 obtain⟨i0,i1,i2,_⟩:=seg_idx hv hx;have hsl:=hv.segments;have hfl:=ha.sl;refine(?_ :AtG n (g_horizon_view_member v s ip) _);refine .skip (.call _ (mul_x n hn hv ha v hf hx) fun m hm=>.skip (.br (fun h=>.skip (.done rfl ?_)) fun h=>.skip (.call _ (esi_x n hn hv ha v hf hx) fun e he=>.skip (.call _ (idx_shx n hn _ (by rw[hw];omega) e) fun(r:Int) hr=>.skip (.br (fun h0=>?_) fun h0=>?_)))))
 ·exact⟨fun hb=>(by cases hb),fun hc=>by rw[hm,hc.1]at h;cases h⟩
 ·have hmul:mulP x=true:=by rw[hm]at h;simpa using h
  rcases hr with⟨hr,_⟩ |⟨_,y,g1,g2,g3⟩
  ·simp only[decide_eq_true_eq]at h0;omega
  rw[hw]at g2;obtain⟨s',x',k1,k2,k3,k4,k6⟩:=(ha.hs y).1 g2;obtain⟨j0,j1,j2,_⟩:=seg_idx hv k1;have hs:s'=s:=esV_inj j0 j2 i0 i2 (by rw[← he,← g3,k6])
  subst hs;rw[hx]at k1;cases k1;have hlen:(mbV ups s' x).length≤4000:=by
   have:=List.length_filter_le (fun m=>upB ups m s') x.Leaves
   have:=(seg_small hv s' x hx).1;simp[mbV];omega
  refine .skip (.op y g1 (.skip (.call _ (cont_ipx n hn y.Members (by rw[k6];exact hlen) ip) fun b hb=>.skip (.done rfl ?_))))
  rw[hb,k6];exact⟨fun h=>⟨hmul,h⟩,fun h=>h.2⟩
 ·have hmul:mulP x=true:=by rw[hm]at h;simpa using h
  rcases hr with⟨_,hr⟩ |⟨hr,_⟩
  ·rw[hw,he]at hr;exact absurd rfl (hr _ ((ha.hs ⟨esV s,mbV ups s x,[]⟩).2 ⟨s,x,hx,i1,hmul,hmb,rfl⟩))
  ·simp only[decide_eq_false_iff_not]at h0;omega
end
section
variable (n:Nat) (hn:5000≤n) {f:Fabric} (hv:Vf f) {ups:List (List Bool)} {ch:Int} {fw:List Forwarder} {sh:List Sharing} (ha:AgS f ups ch f.Segments.length fw sh) {s:Int} {x:Segment} (hx:at? f.Segments s=some x) {leaf bd:Int}
 (h1:leaf∈x.Leaves) (h2:bd∈x.BDs) (hu:upB ups leaf s=true) (up:List Bool)
include hn hv ha hx h1 h2 hu
theorem elabel_x(sh0:List Sharing):At (c_horizon_entering_label.S n (⟨⟨f,leaf,lpV leaf,up,fw,sh0⟩,bd⟩,s)) (fun b:Bool=>b=true↔fwP ups ch x leaf bd s):=by
 refine(?_ :AtG n (g_horizon_entering_label ⟨⟨f,leaf,lpV leaf,up,fw,sh0⟩,bd⟩ s) _);refine .skip (.call _ (mul_x n hn hv ha _ rfl hx) fun m hm=>.skip (.br (fun h=>.skip (.done rfl ⟨fun _ hc=>(by rw[hm,hc]at h;cases h),fun _=>rfl⟩)) fun h=>.skip (.call _ (forw_x n hn hv ha _ rfl hx rfl rfl rfl h1 h2 hu) fun b hb=>.skip (.done rfl hb))))
theorem llocal_x(src mark:Int):At (c_horizon_leaving_local.S n (⟨⟨f,leaf,lpV leaf,up,fw,sh⟩,bd,src,mark⟩,s)) (fun b:Bool=>b=true↔(fwP ups ch x leaf bd s∧¬(mulP x=true∧src∈mbV ups s x))):=by
 have hmb:mbV ups s x≠[]:=List.ne_nil_of_mem (a:=lpV leaf) (List.mem_map.2 ⟨leaf,List.mem_filter.2 ⟨h1,hu⟩,rfl⟩);refine(?_ :AtG n (g_horizon_leaving_local ⟨⟨f,leaf,lpV leaf,up,fw,sh⟩,bd,src,mark⟩ s) _);refine .skip (.call _ (forw_x n hn hv ha _ rfl hx rfl rfl rfl h1 h2 hu) fun b hb=>.skip (.br (fun h=>.skip (.call _ (memb_x n hn hv ha _ rfl hx rfl hmb src) fun c hc=>.skip (.done rfl ?_))) fun h=>.skip (.done rfl ?_)))
 ·rw[← hc];have:=hb.1 h;cases c
  ·exact⟨fun _=>⟨this,fun h=>(by cases h)⟩,fun _=>rfl⟩
  ·exact⟨fun h=>(by cases h),fun h=>absurd rfl h.2⟩
 ·exact⟨fun h=>(by cases h),fun hc=>by rw[hb.2 hc.1]at h;cases h⟩
theorem llabel_x(src mark:Int):At (c_horizon_leaving_label.S n (⟨⟨f,leaf,lpV leaf,up,fw,sh⟩,bd,src,mark⟩,s)) (fun b:Bool=>b=true↔(fwP ups ch x leaf bd s∧¬(mulP x=true∧s+1=mark))):=by
 obtain⟨i0,i1,i2,_⟩:=seg_idx hv hx;have hw:IntKind.wrap .u32 ((IntKind.wrap .u32 s)+1)=s+1:=by rw[wrapU,wrapU];omega
 refine(?_ :AtG n (g_horizon_leaving_label ⟨⟨f,leaf,lpV leaf,up,fw,sh⟩,bd,src,mark⟩ s) _);refine .skip (.call _ (mul_x n hn hv ha _ rfl hx) fun m hm=>.skip (.br (fun h=>.skip (.br (fun g=>.skip (.call _ (forw_x n hn hv ha _ rfl hx rfl rfl rfl h1 h2 hu) fun b hb=>.skip (.done rfl ?_))) fun g=>.skip (.done rfl ?_))) fun h=>.skip (.call _ (forw_x n hn hv ha _ rfl hx rfl rfl rfl h1 h2 hu) fun b hb=>.skip (.done rfl ?_))))
 ·rw[hw]at g;have hne:¬(s+1=mark):=by simpa using g
  rw[hb];exact⟨fun hc=>⟨hc,fun hd=>hne hd.2⟩,fun hc=>hc.1⟩
 ·rw[hw]at g;have he:s+1=mark:=by simpa using g
  exact⟨fun hc=>(by cases hc),fun hc=>absurd ⟨by rw[← hm];exact h,he⟩ hc.2⟩
 ·rw[hb];exact⟨fun hc=>⟨hc,fun hd=>(by rw[hm,hd.1]at h;cases h)⟩,fun hc=>hc.1⟩
end
end Go.L
end
section
namespace Go.L
open Go.AM
def InX(f:Fabric)(leaf:Int)(up:List Bool)(bd:Int)(Q:Int→Segment→Prop)(i:Nat)(l:List Int):Prop:=
 (l.Pairwise (· < ·)∧l.length≤i)∧∀s,s∈l↔(s<(i:Int)∧∃x,at? f.Segments s=some x∧at? up s=some true∧leaf∈x.Leaves∧bd∈x.BDs∧Q s x)
section
variable {f:Fabric} {leaf:Int} {up:List Bool} {bd:Int} {Q:Int→Segment→Prop} {i:Nat} {l:List Int}
theorem InX.nil(hv:Vf f):InX f leaf up bd Q 0 []:=
 ⟨⟨.nil,Nat.le_refl _⟩,fun s=>⟨fun h=>(by cases h),fun⟨h,x,hx,_⟩=>by have:=(seg_idx hv hx).1;simp at h;omega⟩⟩
theorem InX.stay(h:InX f leaf up bd Q i l){x:Segment}(hx:at? f.Segments (i:Int)=some x)(hno:¬(at? up (i:Int)=some true∧leaf∈x.Leaves∧bd∈x.BDs∧Q (i:Int) x)):InX f leaf up bd Q (i+1) l:=by
 refine⟨⟨h.1.1,by have:=h.1.2;omega⟩,fun s=>(h.2 s).trans ⟨fun⟨h1,h2⟩=>⟨by omega,h2⟩,fun⟨h1,y,hy,h2⟩=>⟨?_,y,hy,h2⟩⟩⟩
 by_cases he:s=(i:Int)
 ·subst he;rw[hx]at hy;cases hy;exact absurd h2 hno
 ·omega
theorem InX.add(h:InX f leaf up bd Q i l){x:Segment}(hx:at? f.Segments (i:Int)=some x)(hc:at? up (i:Int)=some true∧leaf∈x.Leaves∧bd∈x.BDs∧Q (i:Int) x):InX f leaf up bd Q (i+1) (l++[(i:Int)]):=by
 refine⟨⟨List.pairwise_append.2 ⟨h.1.1,List.pairwise_singleton _ _,fun a ha b hb=>?_⟩,by have:=h.1.2;simp;omega⟩,fun s=>List.mem_append.trans ⟨?_,?_⟩⟩
 ·simp only[List.mem_singleton]at hb;have:=((h.2 a).1 ha).1;omega
 ·rintro(hs |hs)
  ·obtain⟨h1,h2⟩:=(h.2 s).1 hs;exact⟨by omega,h2⟩
  ·rw[List.mem_singleton.1 hs];exact⟨by omega,x,hx,hc⟩
 ·rintro⟨h1,h2⟩;by_cases he:s=(i:Int)
  ·exact .inr (List.mem_singleton.2 he)
  ·exact .inl ((h.2 s).2 ⟨by omega,h2⟩)
end
theorem at_lt{α:Type}{l:List α}{i:Int}{x:α}(h:at? l i=some x):0≤i∧i<(l.length:Int):=by
 unfold at? at h;split at h
 ·rename_i h0;have:=(List.getElem?_eq_some_iff.1 h).1;omega
 ·cases h
theorem ingress_x(n:Nat)(hn:5000≤n){f:Fabric}(hv:Vf f){ups:List (List Bool)}{ch:Int}{fw:List Forwarder}{sh:List Sharing}(hag:AgS f ups ch f.Segments.length fw sh)(leaf:Int)(l0:0≤leaf)(l1:leaf<f.Leaves)(up:List Bool)(hrow:at? ups leaf=some up)(bd nt:Int):
 At (c_horizon_Ingress.S n (f,leaf,up,fw,bd,nt)) (fun(l:List Int)=>InX f leaf up bd (fun s x=>s≠nt∧(f.Horizon=1→fwP ups ch x leaf bd s)) f.Segments.length l):=by
 have h2:=hv.segments;refine(?_ :AtG n (g_horizon_Ingress f leaf up fw bd nt) _);unfold g_horizon_Ingress;refine .skip (.call _ (look_x n hn f hv leaf l0 l1) fun q hq=>.skip (.br (fun h=>(by rw[hq]at h;cases h)) fun _=>.skip (.call (fun(r:horizon_view×Int)=>r=(⟨q.1.Fabric,q.1.leaf,q.1.own,up,fw,q.1.sharing⟩,bd)) ⟨_,rfl,rfl⟩ fun r hr=>?_)))
 subst hr;subst hq
 repeat first |refine .skip ?_ |refine .inl ?_ |refine .tidy rfl ?_
 refine .eqi (fun hz=>?_) fun h0=>?_
 ·repeat first |refine .skip ?_ |refine .inl ?_ |refine .tidy rfl ?_
  refine AtG.loop (fun a:Int×List Int=>IdxI f.Segments (fun pre l=>InX f leaf up bd (fun s x=>s≠nt∧(f.Horizon=1→fwP ups ch x leaf bd s)) pre.length l) a) (fun a=>f.Segments.length - a.1.toNat) (fun l:List Int=>InX f leaf up bd (fun s x=>s≠nt∧(f.Horizon=1→fwP ups ch x leaf bd s)) f.Segments.length l) rfl (IdxI.start (InX.nil hv)) (by simp;omega) (fun a ha=>?_) (fun t ht=>?_)
  ·refine .skip (.br (fun h=>?_) fun h=>.skip (.done rfl (ha.fin h)))
   obtain⟨x,pre,h1,h2,h3,⟨h5,_⟩,h4⟩:=ha.get h;have hk:at? f.Segments ((pre.length:Nat):Int)=some x:=by rw[← h5];exact h1
   have stay:¬(at? up a.1=some true∧leaf∈x.Leaves∧bd∈x.BDs∧(fun s x=>s≠nt∧(f.Horizon=1→fwP ups ch x leaf bd s)) a.1 x)→_:=fun hno=>h4 (by omega) a.2 (by simpa using h3.stay hk (by rw[← h5];exact hno))
   have adds:(at? up a.1=some true∧leaf∈x.Leaves∧bd∈x.BDs∧(fun s x=>s≠nt∧(f.Horizon=1→fwP ups ch x leaf bd s)) a.1 x)→_:=fun hc=>h4 (by omega) (a.2++[a.1]) (by have:=h3.add hk (by rw[← h5];exact hc);rw[← h5]at this;simpa using this)
   obtain⟨s1,s2⟩:=seg_small hv _ _ h1;have hpl:pre.length≤6:=by
    have:a.1<(f.Segments.length:Int):=by simpa using h
    omega
   refine .skip (.op x h1 (.skip (.op () rfl (.skip (.br (fun hu=>?_) fun hu=>.skip (.done rfl (stay fun hc=>(by have:=(at_lt hc.1).2;simp only[decide_eq_false_iff_not]at hu;omega))))))))
   obtain⟨u,hu1,_⟩:=at_get (l:=up) (i:=a.1) (by omega) (by simpa using hu)
   refine .skip (.op u hu1 (.skip (.br (fun hu2=>?_) fun hu2=>.skip (.done rfl (stay fun hc=>(by have:=hc.1;rw[hu1,hu2]at this;cases this))))))
   refine .skip (.call _ (cont_x n hn x.Leaves _ s1) fun r1 hr1=>.skip (.br (fun hc1=>?_) fun hc1=>.skip (.done rfl (stay fun hc=>(by rw[hr1.2 hc.2.1]at hc1;cases hc1)))))
   refine .skip (.call _ (cont_x n hn x.BDs _ s2) fun r2 hr2=>.skip (.br (fun hc2=>?_) fun hc2=>.skip (.done rfl (stay fun hc=>(by rw[hr2.2 hc.2.2.1]at hc2;cases hc2)))))
   have hut:at? up a.1=some true:=by rw[hu1,hu2]
   have hup:upB ups leaf a.1=true:=by simp[upB,hrow,hut]
   repeat first |refine .skip ?_ |refine .inl ?_ |refine .tidy rfl ?_
   refine .br (fun hc3=>?_) fun hc3=>?_
   rotate_left
   ·repeat first |refine .skip ?_ |refine .inl ?_ |refine .tidy rfl ?_
    exact .done rfl (stay fun hc=>absurd hc.2.2.2.1 (by simpa using hc3))
   have hne:a.1≠nt:=by simpa using hc3
   repeat first |refine .skip ?_ |refine .inl ?_ |refine .tidy rfl ?_
   refine .op () (app_v (by have:=h3.1.2;omega)) ?_
   repeat first |refine .skip ?_ |refine .inl ?_ |refine .tidy rfl ?_
   exact .done rfl (adds ⟨hut,hr1.1 hc1,hr2.1 hc2,hne,fun hq=>absurd hq (by omega)⟩)
  ·repeat first |refine .skip ?_ |refine .inl ?_ |refine .tidy rfl ?_
   exact .done (by simp[tsOk,fzRow];exact decide_eq_true (List.length_map _).symm) ht
 ·repeat first |refine .skip ?_ |refine .inl ?_ |refine .tidy rfl ?_
  refine .eqi (fun hz=>?_) fun h1=>?_
  ·repeat first |refine .skip ?_ |refine .inl ?_ |refine .tidy rfl ?_
   refine AtG.loop (fun a:Int×List Int=>IdxI f.Segments (fun pre l=>InX f leaf up bd (fun s x=>s≠nt∧(f.Horizon=1→fwP ups ch x leaf bd s)) pre.length l) a) (fun a=>f.Segments.length - a.1.toNat) (fun l:List Int=>InX f leaf up bd (fun s x=>s≠nt∧(f.Horizon=1→fwP ups ch x leaf bd s)) f.Segments.length l) rfl (IdxI.start (InX.nil hv)) (by simp;omega) (fun a ha=>?_) (fun t ht=>?_)
   ·refine .skip (.br (fun h=>?_) fun h=>.skip (.done rfl (ha.fin h)))
    obtain⟨x,pre,h1,h2,h3,⟨h5,_⟩,h4⟩:=ha.get h;have hk:at? f.Segments ((pre.length:Nat):Int)=some x:=by rw[← h5];exact h1
    have stay:¬(at? up a.1=some true∧leaf∈x.Leaves∧bd∈x.BDs∧(fun s x=>s≠nt∧(f.Horizon=1→fwP ups ch x leaf bd s)) a.1 x)→_:=fun hno=>h4 (by omega) a.2 (by simpa using h3.stay hk (by rw[← h5];exact hno))
    have adds:(at? up a.1=some true∧leaf∈x.Leaves∧bd∈x.BDs∧(fun s x=>s≠nt∧(f.Horizon=1→fwP ups ch x leaf bd s)) a.1 x)→_:=fun hc=>h4 (by omega) (a.2++[a.1]) (by have:=h3.add hk (by rw[← h5];exact hc);rw[← h5]at this;simpa using this)
    obtain⟨s1,s2⟩:=seg_small hv _ _ h1;have hpl:pre.length≤6:=by
     have:a.1<(f.Segments.length:Int):=by simpa using h
     omega
    refine .skip (.op x h1 (.skip (.op () rfl (.skip (.br (fun hu=>?_) fun hu=>.skip (.done rfl (stay fun hc=>(by have:=(at_lt hc.1).2;simp only[decide_eq_false_iff_not]at hu;omega))))))))
    obtain⟨u,hu1,_⟩:=at_get (l:=up) (i:=a.1) (by omega) (by simpa using hu)
    refine .skip (.op u hu1 (.skip (.br (fun hu2=>?_) fun hu2=>.skip (.done rfl (stay fun hc=>(by have:=hc.1;rw[hu1,hu2]at this;cases this))))))
    refine .skip (.call _ (cont_x n hn x.Leaves _ s1) fun r1 hr1=>.skip (.br (fun hc1=>?_) fun hc1=>.skip (.done rfl (stay fun hc=>(by rw[hr1.2 hc.2.1]at hc1;cases hc1)))))
    refine .skip (.call _ (cont_x n hn x.BDs _ s2) fun r2 hr2=>.skip (.br (fun hc2=>?_) fun hc2=>.skip (.done rfl (stay fun hc=>(by rw[hr2.2 hc.2.2.1]at hc2;cases hc2)))))
    have hut:at? up a.1=some true:=by rw[hu1,hu2]
    have hup:upB ups leaf a.1=true:=by simp[upB,hrow,hut]
    repeat first |refine .skip ?_ |refine .inl ?_ |refine .tidy rfl ?_
    refine .br (fun hc3=>?_) fun hc3=>?_
    rotate_left
    ·repeat first |refine .skip ?_ |refine .inl ?_ |refine .tidy rfl ?_
     exact .done rfl (stay fun hc=>absurd hc.2.2.2.1 (by simpa using hc3))
    have hne:a.1≠nt:=by simpa using hc3
    repeat first |refine .skip ?_ |refine .inl ?_ |refine .tidy rfl ?_
    refine AtG.call (c:=c_horizon_entering_label) (fun b:Bool=>b=true↔fwP ups ch x leaf bd a.1) (elabel_x n hn hv hag h1 (hr1.1 hc1) (hr2.1 hc2) hup up []) fun r4 hr4=>?_
    repeat first |refine .skip ?_ |refine .inl ?_ |refine .tidy rfl ?_
    refine .br (fun hc4=>?_) fun hc4=>?_
    rotate_left
    ·repeat first |refine .skip ?_ |refine .inl ?_ |refine .tidy rfl ?_
     exact .done rfl (stay fun hc=>(by rw[hr4.2 (hc.2.2.2.2 hz)]at hc4;cases hc4))
    repeat first |refine .skip ?_ |refine .inl ?_ |refine .tidy rfl ?_
    refine .op () (app_v (by have:=h3.1.2;omega)) ?_
    repeat first |refine .skip ?_ |refine .inl ?_ |refine .tidy rfl ?_
    exact .done rfl (adds ⟨hut,hr1.1 hc1,hr2.1 hc2,hne,fun _=>hr4.1 hc4⟩)
   ·repeat first |refine .skip ?_ |refine .inl ?_ |refine .tidy rfl ?_
    exact .done (by simp[tsOk,fzRow];exact decide_eq_true (List.length_map _).symm) ht
  ·exact absurd hv.horizon (by omega)
theorem egress_x(n:Nat)(hn:5000≤n){f:Fabric}(hv:Vf f){ups:List (List Bool)}{ch:Int}{fw:List Forwarder}{sh:List Sharing}(hag:AgS f ups ch f.Segments.length fw sh)(leaf:Int)(l0:0≤leaf)(l1:leaf<f.Leaves)(up:List Bool)(hrow:at? ups leaf=some up)(bd src mark:Int):
 At (c_horizon_Egress.S n (f,leaf,up,fw,sh,bd,src,mark)) (fun(l:List Int)=>InX f leaf up bd (fun s x=>(f.Horizon=0→fwP ups ch x leaf bd s∧¬(mulP x=true∧src∈mbV ups s x))∧(f.Horizon=1→fwP ups ch x leaf bd s∧¬(mulP x=true∧s+1=mark))) f.Segments.length l):=by
 have h2:=hv.segments;refine(?_ :AtG n (g_horizon_Egress f leaf up fw sh bd src mark) _);unfold g_horizon_Egress;refine .skip (.call _ (look_x n hn f hv leaf l0 l1) fun q hq=>.skip (.br (fun h=>(by rw[hq]at h;cases h)) fun _=>.skip (.call (fun(r:horizon_view×Int)=>r=(⟨q.1.Fabric,q.1.leaf,q.1.own,up,fw,sh⟩,bd)) ⟨_,rfl,rfl⟩ fun r hr=>?_)))
 subst hr;subst hq
 repeat first |refine .skip ?_ |refine .inl ?_ |refine .tidy rfl ?_
 refine .eqi (fun hz=>?_) fun h0=>?_
 ·repeat first |refine .skip ?_ |refine .inl ?_ |refine .tidy rfl ?_
  refine AtG.loop (fun a:Int×List Int=>IdxI f.Segments (fun pre l=>InX f leaf up bd (fun s x=>(f.Horizon=0→fwP ups ch x leaf bd s∧¬(mulP x=true∧src∈mbV ups s x))∧(f.Horizon=1→fwP ups ch x leaf bd s∧¬(mulP x=true∧s+1=mark))) pre.length l) a) (fun a=>f.Segments.length - a.1.toNat) (fun l:List Int=>InX f leaf up bd (fun s x=>(f.Horizon=0→fwP ups ch x leaf bd s∧¬(mulP x=true∧src∈mbV ups s x))∧(f.Horizon=1→fwP ups ch x leaf bd s∧¬(mulP x=true∧s+1=mark))) f.Segments.length l) rfl (IdxI.start (InX.nil hv)) (by simp;omega) (fun a ha=>?_) (fun t ht=>?_)
  ·refine .skip (.br (fun h=>?_) fun h=>.skip (.done rfl (ha.fin h)))
   obtain⟨x,pre,h1,h2,h3,⟨h5,_⟩,h4⟩:=ha.get h;have hk:at? f.Segments ((pre.length:Nat):Int)=some x:=by rw[← h5];exact h1
   have stay:¬(at? up a.1=some true∧leaf∈x.Leaves∧bd∈x.BDs∧(fun s x=>(f.Horizon=0→fwP ups ch x leaf bd s∧¬(mulP x=true∧src∈mbV ups s x))∧(f.Horizon=1→fwP ups ch x leaf bd s∧¬(mulP x=true∧s+1=mark))) a.1 x)→_:=fun hno=>h4 (by omega) a.2 (by simpa using h3.stay hk (by rw[← h5];exact hno))
   have adds:(at? up a.1=some true∧leaf∈x.Leaves∧bd∈x.BDs∧(fun s x=>(f.Horizon=0→fwP ups ch x leaf bd s∧¬(mulP x=true∧src∈mbV ups s x))∧(f.Horizon=1→fwP ups ch x leaf bd s∧¬(mulP x=true∧s+1=mark))) a.1 x)→_:=fun hc=>h4 (by omega) (a.2++[a.1]) (by have:=h3.add hk (by rw[← h5];exact hc);rw[← h5]at this;simpa using this)
   obtain⟨s1,s2⟩:=seg_small hv _ _ h1;have hpl:pre.length≤6:=by
    have:a.1<(f.Segments.length:Int):=by simpa using h
    omega
   refine .skip (.op x h1 (.skip (.op () rfl (.skip (.br (fun hu=>?_) fun hu=>.skip (.done rfl (stay fun hc=>(by have:=(at_lt hc.1).2;simp only[decide_eq_false_iff_not]at hu;omega))))))))
   obtain⟨u,hu1,_⟩:=at_get (l:=up) (i:=a.1) (by omega) (by simpa using hu)
   refine .skip (.op u hu1 (.skip (.br (fun hu2=>?_) fun hu2=>.skip (.done rfl (stay fun hc=>(by have:=hc.1;rw[hu1,hu2]at this;cases this))))))
   refine .skip (.call _ (cont_x n hn x.Leaves _ s1) fun r1 hr1=>.skip (.br (fun hc1=>?_) fun hc1=>.skip (.done rfl (stay fun hc=>(by rw[hr1.2 hc.2.1]at hc1;cases hc1)))))
   refine .skip (.call _ (cont_x n hn x.BDs _ s2) fun r2 hr2=>.skip (.br (fun hc2=>?_) fun hc2=>.skip (.done rfl (stay fun hc=>(by rw[hr2.2 hc.2.2.1]at hc2;cases hc2)))))
   have hut:at? up a.1=some true:=by rw[hu1,hu2]
   have hup:upB ups leaf a.1=true:=by simp[upB,hrow,hut]
   repeat first |refine .skip ?_ |refine .inl ?_ |refine .tidy rfl ?_
   refine AtG.call (c:=c_horizon_leaving_local) (fun b:Bool=>b=true↔(fwP ups ch x leaf bd a.1∧¬(mulP x=true∧src∈mbV ups a.1 x))) (llocal_x n hn hv hag h1 (hr1.1 hc1) (hr2.1 hc2) hup up src mark) fun r4 hr4=>?_
   repeat first |refine .skip ?_ |refine .inl ?_ |refine .tidy rfl ?_
   refine .br (fun hc4=>?_) fun hc4=>?_
   rotate_left
   ·repeat first |refine .skip ?_ |refine .inl ?_ |refine .tidy rfl ?_
    exact .done rfl (stay fun hc=>(by rw[hr4.2 (hc.2.2.2.1 hz)]at hc4;cases hc4))
   repeat first |refine .skip ?_ |refine .inl ?_ |refine .tidy rfl ?_
   refine .op () (app_v (by have:=h3.1.2;omega)) ?_
   repeat first |refine .skip ?_ |refine .inl ?_ |refine .tidy rfl ?_
   exact .done rfl (adds ⟨hut,hr1.1 hc1,hr2.1 hc2,fun _=>hr4.1 hc4,fun hq=>absurd hq (by omega)⟩)
  ·repeat first |refine .skip ?_ |refine .inl ?_ |refine .tidy rfl ?_
   exact .done (by simp[tsOk,fzRow];exact decide_eq_true (List.length_map _).symm) ht
 ·repeat first |refine .skip ?_ |refine .inl ?_ |refine .tidy rfl ?_
  refine .eqi (fun hz=>?_) fun h1=>?_
  ·repeat first |refine .skip ?_ |refine .inl ?_ |refine .tidy rfl ?_
   refine AtG.loop (fun a:Int×List Int=>IdxI f.Segments (fun pre l=>InX f leaf up bd (fun s x=>(f.Horizon=0→fwP ups ch x leaf bd s∧¬(mulP x=true∧src∈mbV ups s x))∧(f.Horizon=1→fwP ups ch x leaf bd s∧¬(mulP x=true∧s+1=mark))) pre.length l) a) (fun a=>f.Segments.length - a.1.toNat) (fun l:List Int=>InX f leaf up bd (fun s x=>(f.Horizon=0→fwP ups ch x leaf bd s∧¬(mulP x=true∧src∈mbV ups s x))∧(f.Horizon=1→fwP ups ch x leaf bd s∧¬(mulP x=true∧s+1=mark))) f.Segments.length l) rfl (IdxI.start (InX.nil hv)) (by simp;omega) (fun a ha=>?_) (fun t ht=>?_)
   ·refine .skip (.br (fun h=>?_) fun h=>.skip (.done rfl (ha.fin h)))
    obtain⟨x,pre,h1,h2,h3,⟨h5,_⟩,h4⟩:=ha.get h;have hk:at? f.Segments ((pre.length:Nat):Int)=some x:=by rw[← h5];exact h1
    have stay:¬(at? up a.1=some true∧leaf∈x.Leaves∧bd∈x.BDs∧(fun s x=>(f.Horizon=0→fwP ups ch x leaf bd s∧¬(mulP x=true∧src∈mbV ups s x))∧(f.Horizon=1→fwP ups ch x leaf bd s∧¬(mulP x=true∧s+1=mark))) a.1 x)→_:=fun hno=>h4 (by omega) a.2 (by simpa using h3.stay hk (by rw[← h5];exact hno))
    have adds:(at? up a.1=some true∧leaf∈x.Leaves∧bd∈x.BDs∧(fun s x=>(f.Horizon=0→fwP ups ch x leaf bd s∧¬(mulP x=true∧src∈mbV ups s x))∧(f.Horizon=1→fwP ups ch x leaf bd s∧¬(mulP x=true∧s+1=mark))) a.1 x)→_:=fun hc=>h4 (by omega) (a.2++[a.1]) (by have:=h3.add hk (by rw[← h5];exact hc);rw[← h5]at this;simpa using this)
    obtain⟨s1,s2⟩:=seg_small hv _ _ h1;have hpl:pre.length≤6:=by
     have:a.1<(f.Segments.length:Int):=by simpa using h
     omega
    refine .skip (.op x h1 (.skip (.op () rfl (.skip (.br (fun hu=>?_) fun hu=>.skip (.done rfl (stay fun hc=>(by have:=(at_lt hc.1).2;simp only[decide_eq_false_iff_not]at hu;omega))))))))
    obtain⟨u,hu1,_⟩:=at_get (l:=up) (i:=a.1) (by omega) (by simpa using hu)
    refine .skip (.op u hu1 (.skip (.br (fun hu2=>?_) fun hu2=>.skip (.done rfl (stay fun hc=>(by have:=hc.1;rw[hu1,hu2]at this;cases this))))))
    refine .skip (.call _ (cont_x n hn x.Leaves _ s1) fun r1 hr1=>.skip (.br (fun hc1=>?_) fun hc1=>.skip (.done rfl (stay fun hc=>(by rw[hr1.2 hc.2.1]at hc1;cases hc1)))))
    refine .skip (.call _ (cont_x n hn x.BDs _ s2) fun r2 hr2=>.skip (.br (fun hc2=>?_) fun hc2=>.skip (.done rfl (stay fun hc=>(by rw[hr2.2 hc.2.2.1]at hc2;cases hc2)))))
    have hut:at? up a.1=some true:=by rw[hu1,hu2]
    have hup:upB ups leaf a.1=true:=by simp[upB,hrow,hut]
    repeat first |refine .skip ?_ |refine .inl ?_ |refine .tidy rfl ?_
    refine AtG.call (c:=c_horizon_leaving_label) (fun b:Bool=>b=true↔(fwP ups ch x leaf bd a.1∧¬(mulP x=true∧a.1+1=mark))) (llabel_x n hn hv hag h1 (hr1.1 hc1) (hr2.1 hc2) hup up src mark) fun r4 hr4=>?_
    repeat first |refine .skip ?_ |refine .inl ?_ |refine .tidy rfl ?_
    refine .br (fun hc4=>?_) fun hc4=>?_
    rotate_left
    ·repeat first |refine .skip ?_ |refine .inl ?_ |refine .tidy rfl ?_
     exact .done rfl (stay fun hc=>(by rw[hr4.2 (hc.2.2.2.2 hz)]at hc4;cases hc4))
    repeat first |refine .skip ?_ |refine .inl ?_ |refine .tidy rfl ?_
    refine .op () (app_v (by have:=h3.1.2;omega)) ?_
    repeat first |refine .skip ?_ |refine .inl ?_ |refine .tidy rfl ?_
    exact .done rfl (adds ⟨hut,hr1.1 hc1,hr2.1 hc2,fun hq=>absurd hq (by omega),fun _=>hr4.1 hc4⟩)
   ·repeat first |refine .skip ?_ |refine .inl ?_ |refine .tidy rfl ?_
    exact .done (by simp[tsOk,fzRow];exact decide_eq_true (List.length_map _).symm) ht
  ·exact absurd hv.horizon (by omega)
end Go.L
end
section
namespace Go.L
open Go.AM
theorem mem_mb{ups:List (List Bool)}{s:Int}{x:Segment}{m:Int}(h1:m∈x.Leaves)(h2:upB ups m s=true):lpV m∈mbV ups s x:=List.mem_map.2 ⟨m,List.mem_filter.2 ⟨h1,h2⟩,rfl⟩
theorem two_mul{x:Segment}{a b:Int}(ha:a∈x.Leaves)(hb:b∈x.Leaves)(hne:a≠b):mulP x=true:=by
 unfold mulP;rw[decide_eq_true_eq]
 match h:x.Leaves with
 | []=>rw[h]at ha;cases ha
 | [c]=>
  rw[h,List.mem_singleton]at ha hb;exact absurd (ha.trans hb.symm) hne
 |c::d::r=>simp;omega
theorem pk_mem{ups:List (List Bool)}{ch s d:Int}{x:Segment}(h:mbV ups s x≠[]):pkV ups ch s x d∈mbV ups s x:=by
 have hl:=List.length_pos_iff.2 h;obtain⟨y,h1,h2⟩:=at_get (l:=mbV ups s x) (Int.emod_nonneg (IntKind.wrap .i64 ((IntKind.wrap .i64 (ch+s))+d)) (show((mbV ups s x).length:Int)≠0 by omega)) (Int.emod_lt_of_pos _ (by omega))
 unfold pkV;rw[h1];exact h2
def DlP(f:Fabric)(ups:List (List Bool))(ch bd leaf fr mark m s:Int):Prop:=∃x,at? f.Segments s=some x∧upB ups m s=true∧m∈x.Leaves∧bd∈x.BDs∧(m=leaf→s≠fr∧(f.Horizon=1→fwP ups ch x m bd s))∧
 (m≠leaf→(f.Horizon=0→fwP ups ch x m bd s∧¬(mulP x=true∧lpV leaf∈mbV ups s x))∧(f.Horizon=1→fwP ups ch x m bd s∧¬(mulP x=true∧s+1=mark)))
def TkP(f:Fabric)(ups:List (List Bool))(bd m s:Int):Prop:=∃x,at? f.Segments s=some x∧m∈x.Leaves∧bd∈x.BDs∧upB ups m s=true
section
variable {f:Fabric} (hv:Vf f) {ups:List (List Bool)} {ch bd leaf fr mark:Int} {xf:Segment} (hf:at? f.Segments fr=some xf) (hl:leaf∈xf.Leaves) (hu:upB ups leaf fr=true) (hm:f.Horizon=1→mark=if mulP xf=true then fr+1 else 0)
include hv hf hl hu hm
omit hf hl hu hm in
theorem leaf_rng{s:Int}{x:Segment}{m:Int}(hx:at? f.Segments s=some x)(h:m∈x.Leaves):0≤m∧m<f.Leaves:=(hv.seg x (seg_idx hv hx).2.2.2).1.2.2.1 m h
omit hf hl hu hm in
theorem lp_same{s t:Int}{x y:Segment}{a b:Int}(hx:at? f.Segments s=some x)(ha:a∈x.Leaves)(hy:at? f.Segments t=some y)(hb:b∈y.Leaves)(h:lpV a=lpV b):a=b:=by
 obtain⟨a0,a1⟩:=leaf_rng hv hx ha;obtain⟨b0,b1⟩:=leaf_rng hv hy hb;have:=hv.leaves;exact lpV_inj a0 (by omega) b0 (by omega) h
theorem once_one{s m m':Int}(h:DlP f ups ch bd leaf fr mark m s)(h':DlP f ups ch bd leaf fr mark m' s):m=m':=by
 obtain⟨x,hx,u1,u2,u3,u4,u5⟩:=h;obtain⟨x',hx',v1,v2,v3,v4,v5⟩:=h';rw[hx]at hx';cases hx';by_cases he:m=m'
 ·exact he
 exfalso;have hmul:=two_mul u2 v2 he;have hz:=hv.horizon;have hz':f.Horizon=0∨f.Horizon=1:=by omega
 rcases hz' with hz |hz
 ·by_cases e1:m=leaf
  ·exact((v5 (fun h=>he (e1.trans h.symm))).1 hz).2 ⟨hmul,by rw[← e1];exact mem_mb u2 u1⟩
  ·by_cases e2:m'=leaf
   ·exact((u5 e1).1 hz).2 ⟨hmul,by rw[← e2];exact mem_mb v2 v1⟩
   ·exact he (lp_same hv hx u2 hx v2 ((((u5 e1).1 hz).1 hmul).symm.trans (((v5 e2).1 hz).1 hmul)))
 ·have k:∀{q:Int},(q=leaf→s≠fr∧(f.Horizon=1→fwP ups ch x q bd s))→(q≠leaf→(f.Horizon=0→fwP ups ch x q bd s∧¬(mulP x=true∧lpV leaf∈mbV ups s x))∧(f.Horizon=1→fwP ups ch x q bd s∧¬(mulP x=true∧s+1=mark)))→pkV ups ch s x bd=lpV q:=fun {q} w1 w2=>by
   by_cases e:q=leaf
   ·exact(w1 e).2 hz hmul
   ·exact((w2 e).2 hz).1 hmul
  exact he (lp_same hv hx u2 hx v2 ((k u4 u5).symm.trans (k v4 v5)))
theorem once_iff{s:Int}:(∃m,DlP f ups ch bd leaf fr mark m s)↔(s≠fr∧∃m,TkP f ups bd m s):=by
 have hz:=hv.horizon;have hz':f.Horizon=0∨f.Horizon=1:=by omega
 constructor
 ·rintro⟨m,x,hx,u1,u2,u3,u4,u5⟩;refine⟨fun he=>?_,m,x,hx,u2,u3,u1⟩
  subst he;by_cases e:m=leaf
  ·exact(u4 e).1 rfl
  rw[hf]at hx;cases hx;have hmul:=two_mul u2 hl e;rcases hz' with hz |hz
  ·exact((u5 e).1 hz).2 ⟨hmul,mem_mb hl hu⟩
  ·exact((u5 e).2 hz).2 ⟨hmul,by rw[hm hz,if_pos hmul]⟩
 ·rintro⟨hs,m,x,hx,u2,u3,u1⟩;obtain⟨s0,_,_,_⟩:=seg_idx hv hx;by_cases hmul:mulP x=true
  ·have hne:mbV ups s x≠[]:=List.ne_nil_of_mem (mem_mb u2 u1);obtain⟨m1,w1,w2⟩:=List.mem_map.1 (pk_mem (ch:=ch) (d:=bd) hne);obtain⟨w3,w4⟩:=List.mem_filter.1 w1;have hfw:fwP ups ch x m1 bd s:=fun _=>w2.symm
   rcases hz' with hz |hz
   ·by_cases hc:leaf∈x.Leaves∧upB ups leaf s=true
    ·exact⟨leaf,x,hx,hc.2,hc.1,u3,fun _=>⟨hs,fun h=>by omega⟩,fun h=>absurd rfl h⟩
    ·have hno:¬lpV leaf∈mbV ups s x:=fun h=>by
      obtain⟨m2,g1,g2⟩:=List.mem_map.1 h;obtain⟨g3,g4⟩:=List.mem_filter.1 g1;have:=lp_same hv hx g3 hf hl g2;subst this;exact hc ⟨g3,g4⟩
     exact⟨m1,x,hx,w4,w3,u3,fun h=>absurd ⟨h▸w3,h▸w4⟩ hc,fun _=>⟨fun _=>⟨hfw,fun h=>hno h.2⟩,fun h=>by omega⟩⟩
   ·refine⟨m1,x,hx,w4,w3,u3,fun _=>⟨hs,fun _=>hfw⟩,fun _=>⟨fun h=>by omega,fun _=>⟨hfw,fun h=>?_⟩⟩⟩
    have h2:=h.2;rw[hm hz]at h2;split at h2<;>omega
  ·have hfw:fwP ups ch x m bd s:=fun h=>absurd h hmul
   exact⟨m,x,hx,u1,u2,u3,fun _=>⟨hs,fun _=>hfw⟩,fun _=>⟨fun _=>⟨hfw,fun h=>hmul h.1⟩,fun _=>⟨hfw,fun h=>hmul h.1⟩⟩⟩
end
theorem count_one(p:Nat→Bool):∀(L:Nat),(∀a b,a<L→b<L→p a=true→p b=true→a=b)→((List.range L).countP p:Nat)=if(List.range L).any p=true then 1 else 0
 | 0,_=>rfl
 |L+1,h=>by
  have ih:=count_one p L fun a b ha hb=>h a b (by omega) (by omega)
  rw[List.range_succ,List.countP_append,ih,List.any_append];cases hp:p L
  ·simp[hp]
  ·have:(List.range L).any p=false:=by
    rw[Bool.eq_false_iff];intro hc;obtain⟨a,h1,h2⟩:=List.any_eq_true.1 hc;have h1:=List.mem_range.1 h1;have:=h a L (by omega) (by omega) h2 hp
    omega
   simp[hp,this]
theorem count_split(p:Nat→Bool)(j:Nat):∀(L:Nat),(List.range L).countP p=(if j<L then(p j).toNat else 0)+(List.range L).countP fun m=>(m != j)&&p m
 | 0=>by simp
 |L+1=>by
  have ih:=count_split p j L;rw[List.range_succ,List.countP_append,List.countP_append,ih];by_cases h:j=L
  ·subst h;cases hp:p j<;>simp[hp]<;>omega
  ·have h1:(j<L+1)↔j<L:=by omega
   have h2:(L != j)=true:=by simp;omega
   simp only[h1,List.countP_singleton,h2,Bool.true_and];omega
end Go.L
end
section
namespace Go.L
open Go.AM
theorem takes_x(n:Nat)(hn:5000≤n)(f:Fabric)(hv:Vf f)(leaf s bd:Int)(u:Bool)(x:Segment)(hx:at? f.Segments s=some x):At (c_law27_takes.S n (f,leaf,s,bd,u)) (fun(b:Bool)=>b=true↔(leaf∈x.Leaves∧bd∈x.BDs∧u=true)):=by
 obtain⟨s1,s2⟩:=seg_small hv _ _ hx;refine(?_ :AtG n (g_law27_takes f leaf s bd u) _);unfold g_law27_takes;have key:∀{pre:List Int} {y z:Int} {b:Bool},(b=true↔z∈pre)→b=false→((y==z)=true↔z∈pre++[y]):=fun {pre y z b} h hb=>by
  rw[List.mem_append,List.mem_singleton];constructor
  ·intro he;exact .inr (eq_of_beq he).symm
  ·rintro(he |he)
   ·rw[h.2 he]at hb;cases hb
   ·rw[he];exact beq_self_eq_true y
 have key2:∀{pre:List Int} {y z:Int} {b:Bool},(b=true↔z∈pre)→b=true→(true=true↔z∈pre++[y]):=fun {pre y z b} h hb=>⟨fun _=>List.mem_append_left _ (h.1 hb),fun _=>rfl⟩
 refine .skip (.loop (fun a:Bool×Int=>IdxI x.Leaves (fun pre (b:Bool)=>b=true↔leaf∈pre) (a.2,a.1)) (fun a=>x.Leaves.length - a.2.toNat) (fun b:Bool=>b=true↔leaf∈x.Leaves) rfl (IdxI.start (by simp)) (by simp;omega) (fun a ha=>?_) (fun t ht=>?_))
 ·refine .skip (.op x hx (.skip (.op () rfl (.skip (.br (fun h=>?_) fun h=>.skip (.done rfl (ha.fin h)))))))
  obtain⟨y,pre,e1,e2,e3,_,e4⟩:=ha.get h;exact .skip (.br (fun hb=>.skip (.done rfl (e4 (by omega) true (key2 e3 hb)))) fun hb=>.skip (.op x hx (.skip (.op y e1 (.skip (.done rfl (e4 (by omega) _ (key e3 hb))))))))
 refine .skip (.loop (fun a:Bool×Int=>IdxI x.BDs (fun pre (b:Bool)=>b=true↔bd∈pre) (a.2,a.1)) (fun a=>x.BDs.length - a.2.toNat) (fun b:Bool=>b=true↔bd∈x.BDs) rfl (IdxI.start (by simp)) (by simp;omega) (fun a ha=>?_) (fun t2 ht2=>?_))
 ·refine .skip (.op x hx (.skip (.op () rfl (.skip (.br (fun h=>?_) fun h=>.skip (.done rfl (ha.fin h)))))))
  obtain⟨y,pre,e1,e2,e3,_,e4⟩:=ha.get h;exact .skip (.br (fun hb=>.skip (.done rfl (e4 (by omega) true (key2 e3 hb)))) fun hb=>.skip (.op x hx (.skip (.op y e1 (.skip (.done rfl (e4 (by omega) _ (key e3 hb))))))))
 exact .skip (.br (fun h=>.skip (.br (fun g=>.skip (.done rfl ⟨fun k=>⟨ht.1 h,ht2.1 g,k⟩,fun k=>k.2.2⟩)) fun g=>.skip (.done rfl ⟨fun k=>(by cases k),fun k=>(by rw[ht2.2 k.2.1]at g;cases g)⟩))) fun h=>.skip (.done rfl ⟨fun k=>(by cases k),fun k=>(by rw[ht.2 k.1]at h;cases h)⟩))
def CtP(c0:List Int)(l:List Int)(r:List Int):Prop:=r.length=c0.length∧∀i:Nat,i<c0.length→∃v,c0[i]? =some v∧r[i]? =some (v+((l.count (i:Int):Nat):Int))
theorem tally_at(n:Nat)(hn:5000≤n)(c0 l:List Int)(hl:l.length≤1000)(hc:∀v∈c0,0≤v∧v≤1000):At (c_law27_tally.S n (c0,c0.length,l)) (fun(r:List Int)=>CtP c0 l r):=by
 refine(?_ :AtG n (g_law27_tally c0 c0.length l) _);unfold g_law27_tally;refine .skip (.loop (fun a:Int×List Int=>IdxI l (fun pre r=>CtP c0 pre r) a) (fun a=>l.length - a.1.toNat) (fun r:List Int=>CtP c0 l r) rfl (IdxI.start ⟨rfl,fun i hi=>⟨c0[i],List.getElem?_eq_getElem hi,by rw[List.getElem?_eq_getElem hi];simp⟩⟩) (by simp;omega) (fun a ha=>?_) (fun t ht=>.done rfl ht))
 refine .skip (.op () rfl (.skip (.br (fun h=>?_) fun h=>.skip (.done rfl (ha.fin h)))))
 obtain⟨s,pre,e1,e2,⟨e3,e3'⟩,⟨e5,_⟩,e4⟩:=ha.get h;have hpl:pre.length≤1000:=by
  have:a.1<(l.length:Int):=by simpa using h
  omega
 have stay:¬(0≤s∧s<(c0.length:Int))→_:=fun hno=>e4 (by omega) a.2 ⟨e3,fun i hi=>by
  obtain⟨v,h1,h2⟩:=e3' i hi;refine⟨v,h1,?_⟩;rw[List.count_append,show List.count (i:Int) [s]=0 from List.count_eq_zero.2 (by simp;omega)]
  exact h2⟩
 refine .skip (.op s e1 (.skip (.br (fun h0=>.skip (.op s e1 (.skip (.br (fun h1=>?_) fun h1=>.skip (.done rfl (stay (by simp only[decide_eq_false_iff_not]at h1;omega))))))) fun h0=>.skip (.done rfl (stay (by simp only[decide_eq_false_iff_not]at h0;omega))))))
 simp only[decide_eq_true_eq]at h0 h1;have hst:s.toNat<c0.length:=by omega
 obtain⟨v,k1,k2⟩:=e3' s.toNat hst;obtain⟨v0,v1⟩:=hc v (List.mem_of_getElem? k1);rw[Int.toNat_of_nonneg h0]at k2;have hcnt:pre.count s≤1000:=Nat.le_trans List.count_le_length hpl;have hw:IntKind.wrap .i64 (v+((pre.count s:Nat):Int)+1)=v+((pre.count s:Nat):Int)+1:=wrap_i64 (by omega) (by omega)
 refine .skip (.op s e1 (.skip (.op () (if_pos ⟨h0,h1⟩) (.op _ k2 (.skip (.op () (if_pos ⟨h0,h1⟩) (.op _ k2 (.skip (.done rfl (e4 (by omega) _ ⟨by simp[e3],fun i hi=>?_⟩))))))))))
 rw[hw];by_cases he:s.toNat=i
 ·subst he;refine⟨v,k1,?_⟩;rw[List.getElem?_set_self (by omega),List.count_append,Int.toNat_of_nonneg h0]
  simp
  omega
 ·obtain⟨w,w1,w2⟩:=e3' i hi;refine⟨w,w1,?_⟩;rw[List.getElem?_set_ne he,w2,List.count_append,show List.count (i:Int) [s]=0 from List.count_eq_zero.2 (by simp;omega)]
  simp
theorem count_nodup{l:List Int}(h:l.Pairwise (· < ·))(s:Int)[Decidable (s∈l)]:l.count s=if s∈l then 1 else 0:=by
 have hn:l.Nodup:=h.imp fun hab=>by omega
 split
 ·rename_i hm;have h1:=(List.nodup_iff_count.1 hn) s;have h2:=List.count_pos_iff.2 hm;omega
 ·rename_i hm;exact List.count_eq_zero.2 hm
end Go.L
end
section
namespace Go.L
open Go.AM
open Classical in
noncomputable def totV(f:Fabric)(ups:List (List Bool))(ch bd leaf fr mark:Int)(k:Nat)(s:Int):Nat:=
 (if DlP f ups ch bd leaf fr mark leaf s then 1 else 0)+(List.range k).countP fun m=>(m != leaf.toNat)&&decide (DlP f ups ch bd leaf fr mark (m:Int) s)
structure CntP(f:Fabric)(ups:List (List Bool))(ch bd leaf fr mark:Int)(k:Nat)(c:List Int):Prop where
 len:c.length=f.Segments.length
 val:∀i:Nat,i<f.Segments.length→c[i]? =some ((totV f ups ch bd leaf fr mark k (i:Int):Nat):Int)
open Classical in
theorem tot_le(f:Fabric)(ups:List (List Bool))(ch bd leaf fr mark:Int)(k:Nat)(s:Int):totV f ups ch bd leaf fr mark k s≤k+1:=by
 unfold totV;have:=List.countP_le_length (p:=fun m=>(m != leaf.toNat)&&decide (DlP f ups ch bd leaf fr mark (m:Int) s)) (l:=List.range k)
 simp at this;split<;>omega
theorem CntP.rng{f:Fabric}{ups:List (List Bool)}{ch bd leaf fr mark:Int}{k:Nat}{c:List Int}(h:CntP f ups ch bd leaf fr mark k c)(hk:k≤10):∀v∈c,0≤v∧v≤1000:=by
 intro v hv;obtain⟨i,hi⟩:=List.getElem?_of_mem hv;have hlt:=(List.getElem?_eq_some_iff.1 hi).1;rw[h.val i (by rw[← h.len];exact hlt)]at hi
 have:=tot_le f ups ch bd leaf fr mark k (i:Int);have:=Option.some.inj hi;omega
open Classical in
theorem CntP.next{f:Fabric}{ups:List (List Bool)}{ch bd leaf fr mark:Int}{k:Nat}{c l r:List Int}(h:CntP f ups ch bd leaf fr mark k c)(hne:(k:Int)≠leaf)(h0:0≤leaf)(hp:l.Pairwise (· < ·))(hc:CtP c l r)
 (hl:∀i:Nat,i<f.Segments.length→((i:Int)∈l↔DlP f ups ch bd leaf fr mark (k:Int) (i:Int))):CntP f ups ch bd leaf fr mark (k+1) r:=by
 refine⟨by rw[hc.1,h.len],fun i hi=>?_⟩
 obtain⟨v,v1,v2⟩:=hc.2 i (by rw[h.len];exact hi)
 rw[h.val i hi]at v1;rw[v2,← Option.some.inj v1,count_nodup hp];have h1:(k != leaf.toNat)=true:=by simp;omega
 unfold totV;rw[List.range_succ,List.countP_append];simp only[List.countP_singleton,h1,Bool.true_and,decide_eq_true_eq,hl i hi];split<;>(congr 1;omega)
theorem CntP.same{f:Fabric}{ups:List (List Bool)}{ch bd leaf fr mark:Int}{k:Nat}{c:List Int}(h:CntP f ups ch bd leaf fr mark k c)(he:(k:Int)=leaf):CntP f ups ch bd leaf fr mark (k+1) c:=by
 refine⟨h.len,fun i hi=>?_⟩
 rw[h.val i hi];unfold totV;rw[List.range_succ,List.countP_append];have h1:(k != leaf.toNat)=false:=by simp;omega
 simp[h1]
open Classical in
theorem tot_end{f:Fabric}(hv:Vf f){ups:List (List Bool)}{ch bd leaf fr mark:Int}{xf:Segment}(hf:at? f.Segments fr=some xf)(hl:leaf∈xf.Leaves)(hu:upB ups leaf fr=true)(hm:f.Horizon=1→mark=if mulP xf=true then fr+1 else 0)(s:Int):
 totV f ups ch bd leaf fr mark f.Leaves.toNat s=if(s≠fr∧∃m,TkP f ups bd m s)then 1 else 0:=by
 obtain⟨l0,l1⟩:=leaf_rng hv hf hl;have e1:totV f ups ch bd leaf fr mark f.Leaves.toNat s=(List.range f.Leaves.toNat).countP fun m:Nat=>decide (DlP f ups ch bd leaf fr mark (m:Int) s):=by
  rw[count_split _ leaf.toNat,if_pos (by omega)]
  unfold totV;rw[Int.toNat_of_nonneg l0];congr 1;by_cases h:DlP f ups ch bd leaf fr mark leaf s<;>simp[h]
 rw[e1,count_one _ _ fun a b ha hb h1 h2=>by
  have:=once_one hv hf hl hu hm (of_decide_eq_true h1) (of_decide_eq_true h2);omega]
 have e2:((List.range f.Leaves.toNat).any fun m:Nat=>decide (DlP f ups ch bd leaf fr mark (m:Int) s))=true↔(s≠fr∧∃m,TkP f ups bd m s):=by
  rw[← once_iff hv hf hl hu hm (ch:=ch) (mark:=mark) (bd:=bd) (s:=s),List.any_eq_true];constructor
  ·rintro⟨m,_,h⟩;exact⟨m,of_decide_eq_true h⟩
  ·rintro⟨m,h⟩;obtain⟨x,hx,_,hmx,_⟩:=id h;obtain⟨m0,m1⟩:=leaf_rng hv hx hmx;refine⟨m.toNat,List.mem_range.2 (by omega),decide_eq_true ?_⟩
   rw[Int.toNat_of_nonneg m0];exact h
 by_cases hc:((List.range f.Leaves.toNat).any fun m:Nat=>decide (DlP f ups ch bd leaf fr mark (m:Int) s))=true
 ·rw[if_pos hc,if_pos (e2.1 hc)]
 ·rw[if_neg hc,if_neg (mt e2.2 hc)]
end Go.L
end
section
namespace Go.L
open Go.AM
theorem up_iff{ups:List (List Bool)}{m s:Int}{up:List Bool}(h:at? ups m=some up):at? up s=some true↔upB ups m s=true:=by
 unfold upB;rw[h];simp only[Option.bind_some];cases at? up s with
 |none=>simp
 |some b=>simp
section
variable {f:Fabric} {ups:List (List Bool)} {ch bd leaf fr mark:Int} {up:List Bool} {l:List Int}
theorem ing_iff(hrow:at? ups leaf=some up)(h:InX f leaf up bd (fun s x=>s≠fr∧(f.Horizon=1→fwP ups ch x leaf bd s)) f.Segments.length l)(i:Nat)(hi:i<f.Segments.length):(i:Int)∈l↔DlP f ups ch bd leaf fr mark leaf (i:Int):=by
 rw[h.2];constructor
 ·rintro⟨_,x,hx,h1,h2,h3,h4⟩;exact⟨x,hx,(up_iff hrow).1 h1,h2,h3,fun _=>h4,fun h=>absurd rfl h⟩
 ·rintro⟨x,hx,h1,h2,h3,h4,_⟩;exact⟨by omega,x,hx,(up_iff hrow).2 h1,h2,h3,h4 rfl⟩
theorem egr_iff{m mk:Int}(hne:m≠leaf)(hmk:f.Horizon=1→mk=mark)(hrow:at? ups m=some up)(h:InX f m up bd (fun s x=>(f.Horizon=0→fwP ups ch x m bd s∧¬(mulP x=true∧lpV leaf∈mbV ups s x))∧(f.Horizon=1→fwP ups ch x m bd s∧¬(mulP x=true∧s+1=mk))) f.Segments.length l)(i:Nat)(hi:i<f.Segments.length):(i:Int)∈l↔DlP f ups ch bd leaf fr mark m (i:Int):=by
 rw[h.2];constructor
 ·rintro⟨_,x,hx,h1,h2,h3,h4,h5⟩;exact⟨x,hx,(up_iff hrow).1 h1,h2,h3,fun h=>absurd h hne,fun _=>⟨h4,fun hz=>by rw[← hmk hz];exact h5 hz⟩⟩
 ·rintro⟨x,hx,h1,h2,h3,_,h4⟩;exact⟨by omega,x,hx,(up_iff hrow).2 h1,h2,h3,(h4 hne).1,fun hz=>by rw[hmk hz];exact(h4 hne).2 hz⟩
end
theorem mod_at(n:Nat)(x m:Int)(h0:0<m)(h1:m≤1000):At (c_kit_Mod.S n (x,m)) (fun(r:Int)=>0≤r∧r<m):=
 ⟨_,kit_Mod n x m h0 (by omega),Int.emod_nonneg _ (by omega),Int.emod_lt_of_pos _ h0⟩
open Classical in
theorem once_law(n:Nat)(hn:5000≤n)(l ports:List Int)(ch sg mb dm:Int):At (c_law27_HorizonOnce.S n (l,ports,ch,sg,mb,dm)) (fun(b:Bool)=>b=true):=by
 refine(?_ :AtG n (g_law27_HorizonOnce l ports ch sg mb dm) _);unfold g_law27_HorizonOnce;obtain⟨f,hf,hv⟩:=fabric_valid l hn;refine .skip (.call (fun b:Bool=>b=true) ⟨true,rfl,rfl⟩ fun(kn:Bool) hk=>.skip (.call Vf ⟨f,hf,hv⟩ fun(f:Fabric) hv=>.skip ?_))
 have hL:=hv.leaves;have hS:=hv.segments;refine .loop (fun a:Int×List (List Bool)=>∃k:Nat,a.1=k∧(k:Int)≤f.Leaves∧a.2.length=k∧∀r∈a.2,r.length=f.Segments.length) (fun a=>(f.Leaves - a.1).toNat) (fun t:List (List Bool)=>UpsV f t) rfl ⟨0,rfl,by omega,rfl,fun r h=>(by cases h)⟩ (by simp;omega) (fun a ha=>?_) (fun ups hu=>?_)
 ·obtain⟨k,k1,k2,k3,k4⟩:=ha;refine .skip (.br (fun h=>.skip ?_) fun h=>.skip (.done rfl ⟨by simp only[decide_eq_false_iff_not]at h;omega,k4⟩))
  simp only[decide_eq_true_eq]at h;refine .loop (fun c:Int×List Bool=>IdxI f.Segments (fun pre (r:List Bool)=>r.length=pre.length) c) (fun c=>f.Segments.length - c.1.toNat) (fun r:List Bool=>r.length=f.Segments.length) rfl (IdxI.start rfl) (by simp;omega) (fun c hc=>?_) (fun r hr=>?_)
  ·refine .skip (.op () rfl (.skip (.br (fun g=>?_) fun g=>.skip (.done rfl (hc.fin g)))))
   obtain⟨x,q,g1,g2,g3,⟨g5,_⟩,g4⟩:=hc.get g;have hql:c.1<(f.Segments.length:Int):=by simpa using g
   have hp0:0≤a.1*((f.Segments.length:Nat):Int):=Int.mul_nonneg (by omega) (by omega)
   have hp1:a.1*((f.Segments.length:Nat):Int)≤4*6:=Int.mul_le_mul (by omega) (by omega) (by omega) (by omega)
   have hw:IntKind.wrap .i64 ((IntKind.wrap .i64 (a.1*((f.Segments.length:Nat):Int)))+c.1)=a.1*((f.Segments.length:Nat):Int)+c.1:=by
    rw[wrap_i64 (x:=a.1*((f.Segments.length:Nat):Int)) (by omega) (by omega),wrap_i64 (by omega) (by omega)]
   refine .skip (.op () rfl (.skip (.op () rfl (.skip (.br (fun hz=>.skip (.op () (app_vx (by omega) (by omega)) (.skip (.done rfl (g4 (by omega) _ (by simp[g3])))))) fun hz=>?_)))))
   simp only[decide_eq_false_iff_not]at hz;obtain⟨v,e1,_⟩:=at_get (l:=ports) (i:=IntKind.wrap .i64 ((IntKind.wrap .i64 (a.1*((f.Segments.length:Nat):Int)))+c.1)) (by rw[hw];omega) (by omega)
   exact .skip (.op v e1 (.skip (.op () (app_vx (by omega) (by omega)) (.skip (.done rfl (g4 (by omega) _ (by simp[g3])))))))
  ·refine .skip (.tidy frz_ok (.skip (.op () (app_vx (by omega) (by omega)) (.skip (.done rfl ⟨⟨k+1,?_,by omega,by rw[List.length_append,k3];rfl,fun q hq=>?_⟩,?_⟩)))))
   ·show IntKind.wrap .i64 (a.1+1)=_;rw[wrap_i64 (by omega) (by omega)];omega
   ·rcases List.mem_append.1 hq with hq |hq
    ·exact k4 q hq
    ·rw[List.mem_singleton.1 hq];exact hr
   ·show(f.Leaves - IntKind.wrap .i64 (a.1+1)).toNat<(f.Leaves - a.1).toNat;rw[wrap_i64 (by omega) (by omega)];omega
 refine .skip (.tidy frz_ok (.skip (.call _ (agreed_at n hn f hv ups hu ch) fun(tb:List Forwarder×List Sharing) hag=>.skip (.op () rfl (.call _ (mod_at n sg _ (by omega) (by omega)) fun(fr:Int) hfr=>?_)))))
 obtain⟨xf,hxf,hxm⟩:=at_get (l:=f.Segments) hfr.1 hfr.2;obtain⟨⟨a1,a2,a3,a4⟩,b1,b2,b3,b4⟩:=hv.seg xf hxm;refine .skip (.op xf hxf (.skip (.op xf hxf (.skip (.op () rfl (.call _ (mod_at n mb _ (by omega) (by omega)) fun(ix:Int) hix=>?_))))))
 obtain⟨leaf,hlf,hlm⟩:=at_get (l:=xf.Leaves) hix.1 hix.2;refine .op leaf hlf (.skip (.op xf hxf (.skip (.op xf hxf (.skip (.op () rfl (.call _ (mod_at n dm _ (by omega) (by omega)) fun(jx:Int) hjx=>?_)))))))
 obtain⟨bd,hbd,hbm⟩:=at_get (l:=xf.BDs) hjx.1 hjx.2;obtain⟨l0,l1⟩:=leaf_rng hv hxf hlm;obtain⟨up,hrow,hrm,hupf⟩:=up_get hu l0 l1 hfr.1 hfr.2;refine .op bd hbd (.skip (.op up hrow (.skip (.op _ hupf (.skip (.br (fun _=>.skip (.done rfl hk)) fun hup=>?_))))))
 have hup1:upB ups leaf fr=true:=by simpa using hup
 obtain⟨fw,sh⟩:=tb;refine .skip (.op () rfl (.op () (if_pos ⟨by omega,by simp[roomy];omega⟩) (.skip (.op up hrow (.skip (.call _ (ingress_x n hn hv hag leaf l0 l1 up hrow bd fr) fun(li:List Int) hli=>.call1 _ (tally_at n hn (List.replicate (Int.toNat ((f.Segments.length:Nat):Int)) 0) li (by have:=hli.1.2;omega) (fun v hv=>by rw[List.eq_of_mem_replicate hv];omega)) fun(c0:List Int) hc0=>.skip ?_))))))
 have hstart:CntP f ups ch bd leaf fr (if mulP xf=true then fr+1 else 0) 0 c0:=by
  refine⟨by rw[hc0.1];simp,fun i hi=>?_⟩
  obtain⟨v,v1,v2⟩:=hc0.2 i (by simp;omega)
  rw[List.getElem?_replicate,if_pos (by simp;omega)]at v1
  rw[v2,← Option.some.inj v1,count_nodup hli.1.1];unfold totV;simp only[ing_iff (mark:=if mulP xf=true then fr+1 else 0) hrow hli i hi,List.range_zero,List.countP_nil,Nat.add_zero,Int.zero_add]
 have hmk:f.Horizon=1→(if mulP xf=true then fr+1 else 0)=if mulP xf=true then fr+1 else 0:=fun _=>rfl
 refine .loop (fun a:Int×List Int=>∃k:Nat,a.1=k∧(k:Int)≤f.Leaves∧CntP f ups ch bd leaf fr (if mulP xf=true then fr+1 else 0) k a.2) (fun a=>(f.Leaves - a.1).toNat) (fun c:List Int=>CntP f ups ch bd leaf fr (if mulP xf=true then fr+1 else 0) f.Leaves.toNat c) rfl ⟨0,rfl,by omega,hstart⟩ (by simp;omega) (fun a ha=>?_) (fun cn hcn=>?_)
 ·obtain⟨k,k1,k2,k3⟩:=ha;have hw:IntKind.wrap .i64 (a.1+1)=((k+1:Nat):Int):=by rw[wrap_i64 (by omega) (by omega)];omega
  refine .skip (.br (fun h=>?_) fun h=>.skip (.done rfl ?_))
  ·simp only[decide_eq_true_eq]at h;have hmeas:(f.Leaves - IntKind.wrap .i64 (a.1+1)).toNat<(f.Leaves - a.1).toNat:=by rw[hw];omega
   refine .skip (.br (fun hne=>?_) fun hne=>.skip (.done rfl ⟨⟨k+1,hw,by omega,k3.same (by rw[← k1];simpa using hne)⟩,hmeas⟩))
   have hne':(k:Int)≠leaf:=by rw[← k1];simpa using hne
   obtain⟨row,hr1,hr2,_⟩:=up_get hu (n:=a.1) (s:=fr) (by omega) h hfr.1 hfr.2
   refine .skip (.op row hr1 (.skip (.call _ (lpl_at n leaf l0 (by omega)) fun(src:Int) hsrc=>.skip (.call _ (mark_at n hn f fr xf hv hxf) fun(mk:Int) hmk2=>.call _ (egress_x n hn hv hag a.1 (by omega) h row hr1 bd src mk) fun(li:List Int) hli=>.call1 (fun r:List Int=>CtP a.2 li r) ?_ fun(c1:List Int) hc1=>.skip (.done rfl ⟨⟨k+1,hw,by omega,?_⟩,hmeas⟩)))))
   ·have hz:(List.replicate (Int.toNat ((f.Segments.length:Nat):Int)) (0:Int)).length=a.2.length:=by rw[k3.len];simp
    rw[hz];exact tally_at n hn a.2 li (by have:=hli.1.2;omega) (k3.rng (by omega))
   ·subst hsrc;rw[k1]at hli hr1;exact k3.next hne' l0 hli.1.1 hc1 (egr_iff hne' hmk2 hr1 hli)
  ·simp only[decide_eq_false_iff_not]at h;have:f.Leaves.toNat=k:=by omega
   rw[this];exact k3
 refine .skip (.loop (fun a:Int=>IdxI f.Segments (fun _ (_:Unit)=>True) (a,())) (fun a=>f.Segments.length - a.toNat) (Sum.elim (fun _=>False) fun _=>True) rfl (IdxI.start trivial) (by simp;omega) (fun a ha=>?_) (fun t ht=>?_))
 ·refine .skip (.op () rfl (.skip (.br (fun h=>?_) fun h=>.skip (.done rfl trivial))))
  obtain⟨x,pre,e1,e2,_,⟨e5,_⟩,e4⟩:=ha.get h
  replace e5:a=((pre.length:Nat):Int):=e5
  have hlt:a<(f.Segments.length:Int):=by simpa using h
  have e1':at? f.Segments a=some x:=e1;refine .skip (.loop (fun c:Int×Int=>∃k:Nat,c.2=k∧(k:Int)≤f.Leaves∧c.1=if(a≠fr∧∃m,m<(k:Int)∧TkP f ups bd m a)then 1 else 0) (fun c=>(f.Leaves - c.2).toNat) (fun w:Int=>w=if(a≠fr∧∃m,TkP f ups bd m a)then 1 else 0) rfl ⟨0,rfl,by omega,?_⟩ (by simp;omega) (fun c hc=>?_) (fun w hw=>?_))
  ·rw[if_neg];rintro⟨_,m,h1,x',hx',hm,_⟩;have:=(leaf_rng hv hx' hm).1;simp at h1;omega
  ·obtain⟨k,k1,k2,k3⟩:=hc;have hw:IntKind.wrap .i64 (c.2+1)=((k+1:Nat):Int):=by rw[wrap_i64 (by omega) (by omega)];omega
   refine .skip (.br (fun hne=>.skip (.br (fun hk2=>?_) fun hk2=>.skip (.done rfl ?_))) fun hne=>.skip (.done rfl ?_))
   ·simp only[decide_eq_true_eq]at hk2;have hne':a≠fr:=by simpa using hne
    have hmeas:(f.Leaves - IntKind.wrap .i64 (c.2+1)).toNat<(f.Leaves - c.2).toNat:=by rw[hw];omega
    obtain⟨row,hr1,hr2,hr3⟩:=up_get hu (n:=c.2) (s:=a) (by omega) hk2 (by omega) hlt
    refine .skip (.op row hr1 (.skip (.op _ hr3 (.skip (.call _ (takes_x n hn f hv c.2 a bd _ x e1') fun(b:Bool) hb=>.br (fun ht=>.skip (.done rfl ⟨⟨k+1,hw,by omega,?_⟩,hmeas⟩)) fun ht=>.skip (.done rfl ⟨⟨k+1,hw,by omega,?_⟩,hmeas⟩))))))
    ·obtain⟨t1,t2,t3⟩:=hb.1 ht;rw[if_pos ⟨hne',c.2,by omega,x,e1',t1,t2,t3⟩]
    ·show c.1=_;rw[k3];have hiff:(a≠fr∧∃m,m<(k:Int)∧TkP f ups bd m a)↔(a≠fr∧∃m,m<((k+1:Nat):Int)∧TkP f ups bd m a):=by
      constructor
      ·rintro⟨h1,m,h2,h3⟩;exact⟨h1,m,by omega,h3⟩
      ·rintro⟨h1,m,h2,h3⟩;refine⟨h1,m,?_,h3⟩;by_cases he:m=(k:Int)
       ·obtain⟨x',hx',q1,q2,q3⟩:=h3;rw[e1']at hx';cases hx';rw[he,← k1]at q1 q3;rw[hb.2 ⟨q1,q2,q3⟩]at ht;cases ht
       ·omega
     simp only[hiff]
   ·simp only[decide_eq_false_iff_not]at hk2;rw[k3];have hiff:(a≠fr∧∃m,m<(k:Int)∧TkP f ups bd m a)↔(a≠fr∧∃m,TkP f ups bd m a):=by
     constructor
     ·rintro⟨h1,m,h2,h3⟩;exact⟨h1,m,h3⟩
     ·rintro⟨h1,m,h3⟩;obtain⟨x',hx',q1,q2,q3⟩:=id h3;have:=(leaf_rng hv hx' q1).2;exact⟨h1,m,by omega,h3⟩
    show(if _ then(1:Int)else 0)=if _ then 1 else 0
    simp only[hiff]
   ·have he:a=fr:=by simpa using hne
    show c.1=_;rw[k3,if_neg (fun hc=>hc.1 he)]
    exact(if_neg fun hc=>hc.1 he).symm
  ·have hval:=hcn.val pre.length (by omega)
   have htot:=tot_end hv hxf hlm hup1 hmk (ch:=ch) (bd:=bd) a;rw[← e5]at hval;refine .skip (.op () (if_pos ⟨by omega,by simp;omega⟩) (.op _ (by rw[e5,Int.toNat_natCast];exact hval) (.skip (.br (fun hx=>?_) fun _=>.skip (.done rfl (e4 (by omega) () trivial))))))
   exfalso;rw[htot,hw]at hx
   revert hx
   split<;>simp
 ·cases t with
  |inl t=>exact absurd ht id
  |inr t=>exact .skip (.done rfl hk)
end Go.L
end
