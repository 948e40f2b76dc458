/- Parts put together. No conditions. -/
import Derived.Test.YtdbkafoghoenoaaGreatWh
import Derived.Test.YtdbkafoghoenoaaGreatPv
import Derived.Test.YtdbkafoghoenoaaGreatPa
set_option linter.unusedSectionVars false
set_option linter.unusedSimpArgs false
set_option linter.unusedVariables false
set_option maxRecDepth 100000
section
namespace Go.L
open Go.AM
theorem _root_.Go.AM.AtG.eqi{P:Program}[Globs]{ρ:Type}{n:Nat}{p:ρ→Prop}{d:Tmp}{ki:Go.IntKind}{x c:Int}{t f:G P ρ}(ht:x=c→AtG n t p)(hf:x≠c→AtG n f p):AtG n (.eqi d ki x c t f) p:=
 At.ite (f:=t.run n) (g:=f.run n) ht hf
theorem check_v(n:Nat)(hn:5000≤n)(f:Fabric)(hv:Vf f):At (c_tenant_Check.S n f) (fun(r:Int×ByteArray×Int)=>r.1=0):=by
 refine(At.eq (r:=checkS f) fun k=>tenant_Check n hn f (vf_small hv) k).mono fun r hr=>?_
 rw[hr,vf_check hv]
theorem cont_v(n:Nat)(hn:5000≤n)(l:List Int)(x:Int)(hl:l.length≤4000):At (c_slices_Contains_int_int.S n (l,x)) (fun(b:Bool)=>b=true→x∈l):=by
 refine(At.eq (r:=l.any fun y=>x==y) fun k=>contains_int n l x (by omega) hl k).mono fun r hr h=>?_
 rw[hr,List.any_eq_true]at h;obtain⟨y,hy,he⟩:=h;rw[eq_of_beq he];exact hy
theorem within_v(n:Nat)(x m:Int):At (c_tenant_within.S n (x,m)) (fun _:Bool=>True):=(At.eq (r:=decide (0≤x)&&decide (x<m)) fun k=>tenant_within n x m k).mono fun _ _=>trivial
theorem loop_a(n:Nat)(x:Int):At (c_addr_Loopback.S n x) (fun _:Int×Int=>True):=by
 refine(?_ :AtG n (g_addr_Loopback x) _);exact .skip (.br (fun _=>.skip (.done rfl trivial)) fun _=>.skip (.br (fun _=>.skip (.done rfl trivial)) fun _=>.skip (.done rfl trivial)))
theorem loop_t(n:Nat)(hn:5000≤n)(f:Fabric)(hv:Vf f)(x:Int):At (c_tenant_Loopback.S n (f,x)) (fun _:Int=>True):=by
 have hvalid:At (c_tenant_valid.S n f) (fun _:Bool=>True):=(.skip (.call _ (check_v n hn f hv) fun _ _=>.skip (.done rfl trivial)):AtG n (g_tenant_valid f) _)
 have hlo:At (c_tenant_loopback.S n x) (fun _:Int=>True):=(.skip (.call _ (loop_a n x) fun _ _=>.skip (.done rfl trivial)):AtG n (g_tenant_loopback x) _)
 refine(?_ :AtG n (g_tenant_Loopback f x) _);exact .skip (.call _ hvalid fun _ _=>.skip (.br (fun _=>.skip (.done rfl trivial)) fun _=>.skip (.call _ (within_v n _ _) fun _ _=>.skip (.br (fun _=>.skip (.done rfl trivial)) fun _=>.skip (.call _ hlo fun _ _=>.skip (.done rfl trivial))))))
theorem look_v(n:Nat)(hn:5000≤n)(f:Fabric)(hv:Vf f)(leaf:Int):At (c_horizon_look.S n (f,leaf)) (fun(r:horizon_view×Bool)=>r.1.Fabric=f∧r.1.leaf=leaf∧r.1.sharing=[]):=by
 refine(?_ :AtG n (g_horizon_look f leaf) _);refine .skip (.call _ (check_v n hn f hv) fun _ _=>.skip (.call _ (loop_t n hn f hv leaf) fun _ _=>.skip (.br (fun _=>.skip (.br (fun _=>.skip (.done rfl ⟨rfl,rfl,rfl⟩)) fun _=>.skip (.done rfl ⟨rfl,rfl,rfl⟩))) fun _=>.skip (.done rfl ⟨rfl,rfl,rfl⟩))))
structure VW(v:horizon_view):Prop where
 seg:∀s x,at? v.Fabric.Segments s=some x→x.Leaves.length≤4000
 fw:v.forwarders.length≤4000
 sh:v.sharing.length≤4000
 mem:∀x∈v.sharing,x.Members.length≤4000
theorem idx_fw(n:Nat)(hn:5000≤n)(l:List Forwarder)(hl:l.length≤4000)(e:V10 Int)(bd:Int):At (c_slices_IndexFunc_Forwarder_Forwarder.S n (l,e.a0,e.a1,e.a2,e.a3,e.a4,e.a5,e.a6,e.a7,e.a8,e.a9,bd)) (fun(r:Int)=>r<(l.length:Int)):=by
 refine(?_ :AtG n (g_slices_IndexFunc_Forwarder_Forwarder l e.a0 e.a1 e.a2 e.a3 e.a4 e.a5 e.a6 e.a7 e.a8 e.a9 bd) _);unfold g_slices_IndexFunc_Forwarder_Forwarder;refine .skip (.op () rfl (.skip (.loop (fun a:Int=>IdxI l (fun _ (_:Unit)=>True) (a,())) (fun a=>l.length - a.toNat) (Sum.elim (fun r:Int=>r<(l.length:Int)) fun _=>True) rfl (IdxI.start trivial) (by simp;omega) (fun a ha=>?_) fun t ht=>?_)))
 ·refine .skip (.br (fun h=>?_) fun h=>.skip (.done rfl trivial))
  obtain⟨x,pre,h1,h2,h3,_,h4⟩:=ha.get h;have hlt:a<(l.length:Int):=by simpa using h
  refine .skip (.op x h1 (.skip (.call (fun _=>True) ?_ fun r _=>.br (fun _=>.skip (.done rfl hlt)) fun _=>.skip (.done rfl (h4 (by omega) () trivial)))))
  refine(?_ :AtG n (g_horizon_view_forwards_1 x e.a0 e.a1 e.a2 e.a3 e.a4 e.a5 e.a6 e.a7 e.a8 e.a9 bd) _);exact .skip (.br (fun _=>.skip (.done rfl trivial)) fun _=>.skip (.done rfl trivial))
 ·cases t with
  |inl t=>exact .done rfl ht
  |inr t=>exact .skip (.done rfl (by
   have:(0:Int)≤(l.length:Int):=by omega
   show(-1:Int)<_;omega))
theorem idx_sh(n:Nat)(hn:5000≤n)(l:List Sharing)(hl:l.length≤4000)(e:V10 Int):At (c_slices_IndexFunc_Sharing_Sharing.S n (l,e.a0,e.a1,e.a2,e.a3,e.a4,e.a5,e.a6,e.a7,e.a8,e.a9)) (fun(r:Int)=>r<(l.length:Int)):=by
 refine(?_ :AtG n (g_slices_IndexFunc_Sharing_Sharing l e.a0 e.a1 e.a2 e.a3 e.a4 e.a5 e.a6 e.a7 e.a8 e.a9) _);unfold g_slices_IndexFunc_Sharing_Sharing;refine .skip (.op () rfl (.skip (.loop (fun a:Int=>IdxI l (fun _ (_:Unit)=>True) (a,())) (fun a=>l.length - a.toNat) (Sum.elim (fun r:Int=>r<(l.length:Int)) fun _=>True) rfl (IdxI.start trivial) (by simp;omega) (fun a ha=>?_) fun t ht=>?_)))
 ·refine .skip (.br (fun h=>?_) fun h=>.skip (.done rfl trivial))
  obtain⟨x,pre,h1,h2,h3,_,h4⟩:=ha.get h;have hlt:a<(l.length:Int):=by simpa using h
  exact .skip (.op x h1 (.skip (.call (fun _=>True) ⟨_,rfl,trivial⟩ fun r _=>.br (fun _=>.skip (.done rfl hlt)) fun _=>.skip (.done rfl (h4 (by omega) () trivial)))))
 ·cases t with
  |inl t=>exact .done rfl ht
  |inr t=>exact .skip (.done rfl (by
   have:(0:Int)≤(l.length:Int):=by omega
   show(-1:Int)<_;omega))
theorem cont_ip(n:Nat)(hn:5000≤n)(l:List Int)(hl:l.length≤4000)(v:Int):At (c_slices_Contains_IP_IP.S n (l,v)) (fun _:Bool=>True):=by
 have h:At (c_slices_Index_IP_IP.S n (l,v)) (fun _:Int=>True):=by
  refine(?_ :AtG n (g_slices_Index_IP_IP l v) _);unfold g_slices_Index_IP_IP;refine .skip (.op () rfl (.skip (.loop (fun a:Int=>IdxI l (fun _ (_:Unit)=>True) (a,())) (fun a=>l.length - a.toNat) (fun _=>True) rfl (IdxI.start trivial) (by simp;omega) (fun a ha=>?_) fun t ht=>?_)))
  ·refine .skip (.br (fun h=>?_) fun h=>.skip (.done rfl trivial))
   obtain⟨x,pre,h1,h2,h3,_,h4⟩:=ha.get h;exact .skip (.op x h1 (.skip (.br (fun _=>.skip (.done rfl trivial)) fun _=>.skip (.done rfl (h4 (by omega) () trivial)))))
  ·cases t with
   |inl t=>exact .done rfl trivial
   |inr t=>exact .skip (.done rfl trivial)
 refine(?_ :AtG n (g_slices_Contains_IP_IP l v) _);exact .skip (.call _ h fun _ _=>.skip (.done rfl trivial))
section
variable (n:Nat) (hn:5000≤n) (v:horizon_view) (hv:VW v) (s:Int) (x:Segment) (hx:at? v.Fabric.Segments s=some x)
include hn hv hx
theorem multi_v:At (c_horizon_view_multihomed.S n (v,s)) (fun _:Bool=>True):=
 (.skip (.op x hx (.skip (.op () rfl (.skip (.done rfl trivial))))):AtG n (g_horizon_view_multihomed v s) _)
omit hx in
theorem esi_v:At (c_horizon_view_esi.S n (v,s)) (fun _:V10 Int=>True):=by
 have h:At (c_addr_SegmentESI.S n s) (fun _:V10 Int×Int=>True):=(.skip (.br (fun _=>.skip (.done rfl trivial)) fun _=>.skip (.br (fun _=>.skip (.done rfl trivial)) fun _=>.skip (.done rfl trivial))):AtG n (g_addr_SegmentESI s) _)
 refine(?_ :AtG n (g_horizon_view_esi v s) _);exact .skip (.call _ h fun _ _=>.skip (.done rfl trivial))
theorem forw_v(bd:Int):At (c_horizon_view_forwards.S n (v,bd,s)) (fun _:Bool=>True):=by
 refine(?_ :AtG n (g_horizon_view_forwards v bd s) _);refine .skip (.op x hx (.skip (.call _ (cont_v n hn x.Leaves _ (hv.seg s x hx)) fun _ _=>.skip (.br (fun _=>.skip (.done rfl trivial)) fun _=>.skip (.call _ (multi_v n hn v hv s x hx) fun _ _=>.skip (.br (fun _=>.skip (.done rfl trivial)) fun _=>.skip (.call _ (esi_v n hn v hv s) fun e _=>.skip (.call _ (idx_fw n hn _ hv.fw e bd) fun(r:Int) hr=>.skip (.br (fun h=>?_) fun _=>.skip (.done rfl trivial))))))))))
 have h0:0≤r:=by simpa using h
 exact .skip (.op (v.forwarders[r.toNat]'(by omega)) (by show at? _ r=_;unfold at?;rw[if_pos h0];exact List.getElem?_eq_getElem (by omega)) (.skip (.done rfl trivial)))
theorem memb_v(ip:Int):At (c_horizon_view_member.S n (v,s,ip)) (fun _:Bool=>True):=by
 refine(?_ :AtG n (g_horizon_view_member v s ip) _);refine .skip (.call _ (multi_v n hn v hv s x hx) fun _ _=>.skip (.br (fun _=>.skip (.done rfl trivial)) fun _=>.skip (.call _ (esi_v n hn v hv s) fun e _=>.skip (.call _ (idx_sh n hn _ hv.sh e) fun(r:Int) hr=>.skip (.br (fun h=>?_) fun _=>.skip (.done rfl trivial))))))
 have h0:0≤r:=by simpa using h
 have hlt:r.toNat<v.sharing.length:=by omega
 exact .skip (.op (v.sharing[r.toNat]) (by show at? _ r=_;unfold at?;rw[if_pos h0];exact List.getElem?_eq_getElem hlt) (.skip (.call _ (cont_ip n hn _ (hv.mem _ (List.getElem_mem hlt)) ip) fun _ _=>.skip (.done rfl trivial))))
end
def OwnI(f:Fabric)(leaf:Int)(up:List Bool)(bd nt:Int)(i:Nat)(l:List Int):Prop:=
 (l.Pairwise (· < ·)∧l.length≤i)∧∀s∈l,0≤s∧s<(i:Int)∧s≠nt∧∃x,at? f.Segments s=some x∧at? up s=some true∧leaf∈x.Leaves∧bd∈x.BDs
theorem OwnI.next{f:Fabric}{leaf:Int}{up:List Bool}{bd nt:Int}{i:Nat}{l:List Int}(h:OwnI f leaf up bd nt i l):OwnI f leaf up bd nt (i+1) l:=
 ⟨⟨h.1.1,by have:=h.1.2;omega⟩,fun s hs=>by obtain⟨h1,h2,h3⟩:=h.2 s hs;exact⟨h1,by omega,h3⟩⟩
theorem OwnI.add{f:Fabric}{leaf:Int}{up:List Bool}{bd nt:Int}{i:Nat}{l:List Int}(h:OwnI f leaf up bd nt i l){x:Segment}(h1:(i:Int)≠nt)(h2:at? f.Segments (i:Int)=some x)(h3:at? up (i:Int)=some true)(h4:leaf∈x.Leaves)(h5:bd∈x.BDs):OwnI f leaf up bd nt (i+1) (l++[(i:Int)]):=by
 refine⟨⟨List.pairwise_append.2 ⟨h.1.1,List.pairwise_singleton _ _,fun a ha b hb=>?_⟩,by have:=h.1.2;simp;omega⟩,fun s hs=>?_⟩
 ·simp only[List.mem_singleton]at hb;have:=(h.2 a ha).2.1;omega
 ·rcases List.mem_append.1 hs with hs |hs
  ·exact h.next.2 s hs
  ·simp only[List.mem_singleton]at hs;subst hs;exact⟨by omega,by omega,h1,x,h2,h3,h4,h5⟩
end Go.L
end
section
namespace Go.L
open Go.AM
theorem app_v{l:List Int}{x:Int}{n b ver nid:Nat}{e:Int→List AVal}{ids:List Nat}(h:l.length≤100):(appO (List.length l) l [x] e n 8 b ver nid ids).run=some ():=
 if_pos ⟨rfl,by simp[roomy];omega⟩
theorem seg_small{f:Fabric}(hv:Vf f)(s:Int)(x:Segment)(h:at? f.Segments s=some x):x.Leaves.length≤4000∧x.BDs.length≤4000:=by
 have hm:x∈f.Segments:=by
  unfold at? at h;split at h
  ·exact List.mem_of_getElem? h
  ·cases h
 obtain⟨⟨a1,a2,a3,a4⟩,b1,b2,b3,b4⟩:=hv.seg x hm;have:=hv.leaves;have:=hv.bds;omega
theorem elabel_v(n:Nat)(hn:5000≤n)(e:horizon_entering)(hv:VW e.view)(s:Int)(x:Segment)(hx:at? e.view.Fabric.Segments s=some x):At (c_horizon_entering_label.S n (e,s)) (fun _:Bool=>True):=
 (.skip (.call _ (multi_v n hn e.view hv s x hx) fun _ _=>.skip (.br (fun _=>.skip (.done rfl trivial)) fun _=>.skip (.call _ (forw_v n hn e.view hv s x hx e.bd) fun _ _=>.skip (.done rfl trivial)))):AtG n (g_horizon_entering_label e s) _)
theorem ingress_v(n:Nat)(hn:5000≤n)(f:Fabric)(hv:Vf f)(leaf:Int)(up:List Bool)(fw:List Forwarder)(hfw:fw.length≤4000)(bd nt:Int):At (c_horizon_Ingress.S n (f,leaf,up,fw,bd,nt)) (fun(l:List Int)=>OwnI f leaf up bd nt f.Segments.length l):=by
 have h2:=hv.segments;refine(?_ :AtG n (g_horizon_Ingress f leaf up fw bd nt) _);unfold g_horizon_Ingress;refine .skip (.call _ (look_v n hn f hv leaf) fun q hq=>.skip (.br (fun _=>.skip (.done rfl ⟨⟨.nil,by simp⟩,by simp⟩)) fun _=>.skip (.call (fun(r:horizon_view×Int)=>r=(⟨q.1.Fabric,q.1.leaf,q.1.own,up,fw,q.1.sharing⟩,bd)) ⟨_,rfl,rfl⟩ fun r hr=>?_)))
 subst hr;obtain⟨q,b⟩:=q;obtain⟨qf,ql,qo,qu,qw,qs⟩:=q;obtain⟨e1,e2,e3⟩:=hq
 replace e1:f=qf:=e1.symm
 replace e2:leaf=ql:=e2.symm
 replace e3:[]=qs:=e3.symm
 subst e1 e2 e3;have hq:(⟨f,leaf,qo,up,fw,[]⟩:horizon_view).Fabric=f∧True:=⟨rfl,trivial⟩;have hV:VW ⟨f,leaf,qo,up,fw,[]⟩:=⟨fun s x h=>(seg_small hv s x h).1,hfw,by simp,fun x h=>(by cases h)⟩
 repeat first |refine .skip ?_ |refine .inl ?_ |refine .tidy rfl ?_
 refine .eqi (fun _=>?_) fun h0=>?_
 ·repeat first |refine .skip ?_ |refine .inl ?_ |refine .tidy rfl ?_
  repeat first |refine .skip ?_ |refine .inl ?_ |refine .tidy rfl ?_
  refine AtG.loop (fun a:Int×List Int=>IdxI f.Segments (fun pre l=>OwnI f leaf up bd nt pre.length l) a) (fun a=>f.Segments.length - a.1.toNat) (fun l:List Int=>OwnI f leaf up bd nt f.Segments.length l) rfl (IdxI.start ⟨⟨.nil,by simp⟩,by simp⟩) (by simp;omega) (fun a ha=>?_) (fun t ht=>?_)
  ·refine .skip (.br (fun h=>?_) fun h=>.skip (.done rfl (ha.fin h)))
   obtain⟨x,pre,h1,h2,h3,⟨h5,_⟩,h4⟩:=ha.get h;have stay:=h4 (by omega) a.2 (by simpa using h3.next)
   obtain⟨s1,s2⟩:=seg_small hv _ _ h1;have hpl:pre.length≤6:=by
    have:a.1<(f.Segments.length:Int):=by simpa using h
    omega
   refine .skip (.op x h1 (.skip (.op () rfl (.skip (.br (fun hu=>?_) fun _=>.skip (.done rfl stay))))))
   obtain⟨u,hu1⟩:∃u,at? up a.1=some u:=by
    have hu2:a.1<(up.length:Int):=by simpa using hu
    exact⟨up[a.1.toNat]'(by omega),by unfold at?;rw[if_pos (by omega)];exact List.getElem?_eq_getElem (by omega)⟩
   refine .skip (.op u hu1 (.skip (.br (fun hu2=>?_) fun _=>.skip (.done rfl stay))))
   refine .skip (.call _ (cont_v n hn x.Leaves _ s1) fun r1 hr1=>.skip (.br (fun hc1=>?_) fun _=>.skip (.done rfl stay)))
   refine .skip (.call _ (cont_v n hn x.BDs _ s2) fun r2 hr2=>.skip (.br (fun hc2=>?_) fun _=>.skip (.done rfl stay)))
   have adds:a.1≠nt→_:=fun hne=>h4 (by omega) (a.2++[a.1]) (by
    have:=h3.add (x:=x) (by rw[← h5];exact hne) (by rw[← h5];exact h1) (by rw[← h5,hu1,hu2]) (hr1 hc1) (hr2 hc2)
    rw[← h5]at this;simpa using this)
   repeat first |refine .skip ?_ |refine .inl ?_ |refine .tidy rfl ?_
   repeat first |refine .skip ?_ |refine .inl ?_ |refine .tidy rfl ?_
   refine .br (fun hc3=>?_) fun _=>?_
   rotate_left
   ·repeat first |refine .skip ?_ |refine .inl ?_ |refine .tidy rfl ?_
    exact .done rfl stay
   have hne:a.1≠nt:=by simpa using hc3
   repeat first |refine .skip ?_ |refine .inl ?_ |refine .tidy rfl ?_
   refine .op () (app_v (by have:=h3.1.2;omega)) ?_
   repeat first |refine .skip ?_ |refine .inl ?_ |refine .tidy rfl ?_
   exact .done rfl (adds hne)
  ·repeat first |refine .skip ?_ |refine .inl ?_ |refine .tidy rfl ?_
   exact .done (by simp[tsOk,fzRow];exact decide_eq_true (List.length_map _).symm) ht
 ·repeat first |refine .skip ?_ |refine .inl ?_ |refine .tidy rfl ?_
  refine .eqi (fun _=>?_) fun h1=>?_
  ·repeat first |refine .skip ?_ |refine .inl ?_ |refine .tidy rfl ?_
   repeat first |refine .skip ?_ |refine .inl ?_ |refine .tidy rfl ?_
   refine AtG.loop (fun a:Int×List Int=>IdxI f.Segments (fun pre l=>OwnI f leaf up bd nt pre.length l) a) (fun a=>f.Segments.length - a.1.toNat) (fun l:List Int=>OwnI f leaf up bd nt f.Segments.length l) rfl (IdxI.start ⟨⟨.nil,by simp⟩,by simp⟩) (by simp;omega) (fun a ha=>?_) (fun t ht=>?_)
   ·refine .skip (.br (fun h=>?_) fun h=>.skip (.done rfl (ha.fin h)))
    obtain⟨x,pre,h1,h2,h3,⟨h5,_⟩,h4⟩:=ha.get h;have stay:=h4 (by omega) a.2 (by simpa using h3.next)
    obtain⟨s1,s2⟩:=seg_small hv _ _ h1;have hpl:pre.length≤6:=by
     have:a.1<(f.Segments.length:Int):=by simpa using h
     omega
    refine .skip (.op x h1 (.skip (.op () rfl (.skip (.br (fun hu=>?_) fun _=>.skip (.done rfl stay))))))
    obtain⟨u,hu1⟩:∃u,at? up a.1=some u:=by
     have hu2:a.1<(up.length:Int):=by simpa using hu
     exact⟨up[a.1.toNat]'(by omega),by unfold at?;rw[if_pos (by omega)];exact List.getElem?_eq_getElem (by omega)⟩
    refine .skip (.op u hu1 (.skip (.br (fun hu2=>?_) fun _=>.skip (.done rfl stay))))
    refine .skip (.call _ (cont_v n hn x.Leaves _ s1) fun r1 hr1=>.skip (.br (fun hc1=>?_) fun _=>.skip (.done rfl stay)))
    refine .skip (.call _ (cont_v n hn x.BDs _ s2) fun r2 hr2=>.skip (.br (fun hc2=>?_) fun _=>.skip (.done rfl stay)))
    have adds:a.1≠nt→_:=fun hne=>h4 (by omega) (a.2++[a.1]) (by
     have:=h3.add (x:=x) (by rw[← h5];exact hne) (by rw[← h5];exact h1) (by rw[← h5,hu1,hu2]) (hr1 hc1) (hr2 hc2)
     rw[← h5]at this;simpa using this)
    repeat first |refine .skip ?_ |refine .inl ?_ |refine .tidy rfl ?_
    repeat first |refine .skip ?_ |refine .inl ?_ |refine .tidy rfl ?_
    refine .br (fun hc3=>?_) fun _=>?_
    rotate_left
    ·repeat first |refine .skip ?_ |refine .inl ?_ |refine .tidy rfl ?_
     exact .done rfl stay
    have hne:a.1≠nt:=by simpa using hc3
    repeat first |refine .skip ?_ |refine .inl ?_ |refine .tidy rfl ?_
    refine AtG.call (c:=c_horizon_entering_label) (fun _:Bool=>True) (elabel_v n hn _ hV a.1 x (by rw[hq.1];exact h1)) fun r4 _=>?_
    repeat first |refine .skip ?_ |refine .inl ?_ |refine .tidy rfl ?_
    refine .br (fun hc4=>?_) fun _=>?_
    rotate_left
    ·repeat first |refine .skip ?_ |refine .inl ?_ |refine .tidy rfl ?_
     exact .done rfl stay
    repeat first |refine .skip ?_ |refine .inl ?_ |refine .tidy rfl ?_
    refine .op () (app_v (by have:=h3.1.2;omega)) ?_
    repeat first |refine .skip ?_ |refine .inl ?_ |refine .tidy rfl ?_
    exact .done rfl (adds hne)
   ·repeat first |refine .skip ?_ |refine .inl ?_ |refine .tidy rfl ?_
    exact .done (by simp[tsOk,fzRow];exact decide_eq_true (List.length_map _).symm) ht
  ·exact absurd hv.horizon (by omega)
end Go.L
end
section
namespace Go.L
open Go.AM
section
variable (n:Nat) (hn:5000≤n) (e:horizon_leaving) (hv:VW e.view) (s:Int) (x:Segment) (hx:at? e.view.Fabric.Segments s=some x)
include hn hv hx
theorem llocal_v:At (c_horizon_leaving_local.S n (e,s)) (fun _:Bool=>True):=
 (.skip (.call _ (forw_v n hn e.view hv s x hx e.bd) fun _ _=>.skip (.br (fun _=>.skip (.call _ (memb_v n hn e.view hv s x hx e.source) fun _ _=>.skip (.done rfl trivial))) fun _=>.skip (.done rfl trivial))):AtG n (g_horizon_leaving_local e s) _)
theorem llabel_v:At (c_horizon_leaving_label.S n (e,s)) (fun _:Bool=>True):=
 (.skip (.call _ (multi_v n hn e.view hv s x hx) fun _ _=>.skip (.br (fun _=>.skip (.br (fun _=>.skip (.call _ (forw_v n hn e.view hv s x hx e.bd) fun _ _=>.skip (.done rfl trivial))) fun _=>.skip (.done rfl trivial))) fun _=>.skip (.call _ (forw_v n hn e.view hv s x hx e.bd) fun _ _=>.skip (.done rfl trivial)))):AtG n (g_horizon_leaving_label e s) _)
end
theorem egress_v(n:Nat)(hn:5000≤n)(f:Fabric)(hv:Vf f)(leaf:Int)(up:List Bool)(fw:List Forwarder)(hfw:fw.length≤4000)(sh:List Sharing)(hsh:sh.length≤4000)(hme:∀x∈sh,x.Members.length≤4000)(bd src mark:Int):At (c_horizon_Egress.S n (f,leaf,up,fw,sh,bd,src,mark)) (fun(l:List Int)=>OwnI f leaf up bd (-1) f.Segments.length l):=by
 have h2:=hv.segments;refine(?_ :AtG n (g_horizon_Egress f leaf up fw sh bd src mark) _);unfold g_horizon_Egress;refine .skip (.call _ (look_v n hn f hv leaf) fun q hq=>.skip (.br (fun _=>.skip (.done rfl ⟨⟨.nil,by simp⟩,by simp⟩)) fun _=>.skip (.call (fun(r:horizon_view×Int)=>r=(⟨q.1.Fabric,q.1.leaf,q.1.own,up,fw,sh⟩,bd)) ⟨_,rfl,rfl⟩ fun r hr=>?_)))
 subst hr;obtain⟨q,b⟩:=q;obtain⟨qf,ql,qo,qu,qw,qs⟩:=q;obtain⟨e1,e2,e3⟩:=hq
 replace e1:f=qf:=e1.symm
 replace e2:leaf=ql:=e2.symm
 replace e3:[]=qs:=e3.symm
 subst e1 e2 e3;have hq:(⟨f,leaf,qo,up,fw,sh⟩:horizon_view).Fabric=f∧True:=⟨rfl,trivial⟩;have hV:VW ⟨f,leaf,qo,up,fw,sh⟩:=⟨fun s x h=>(seg_small hv s x h).1,hfw,hsh,hme⟩
 repeat first |refine .skip ?_ |refine .inl ?_ |refine .tidy rfl ?_
 refine .eqi (fun _=>?_) fun h0=>?_
 ·repeat first |refine .skip ?_ |refine .inl ?_ |refine .tidy rfl ?_
  repeat first |refine .skip ?_ |refine .inl ?_ |refine .tidy rfl ?_
  refine AtG.loop (fun a:Int×List Int=>IdxI f.Segments (fun pre l=>OwnI f leaf up bd (-1) pre.length l) a) (fun a=>f.Segments.length - a.1.toNat) (fun l:List Int=>OwnI f leaf up bd (-1) f.Segments.length l) rfl (IdxI.start ⟨⟨.nil,by simp⟩,by simp⟩) (by simp;omega) (fun a ha=>?_) (fun t ht=>?_)
  ·refine .skip (.br (fun h=>?_) fun h=>.skip (.done rfl (ha.fin h)))
   obtain⟨x,pre,h1,h2,h3,⟨h5,_⟩,h4⟩:=ha.get h;have stay:=h4 (by omega) a.2 (by simpa using h3.next)
   obtain⟨s1,s2⟩:=seg_small hv _ _ h1;have hpl:pre.length≤6:=by
    have:a.1<(f.Segments.length:Int):=by simpa using h
    omega
   refine .skip (.op x h1 (.skip (.op () rfl (.skip (.br (fun hu=>?_) fun _=>.skip (.done rfl stay))))))
   obtain⟨u,hu1⟩:∃u,at? up a.1=some u:=by
    have hu2:a.1<(up.length:Int):=by simpa using hu
    exact⟨up[a.1.toNat]'(by omega),by unfold at?;rw[if_pos (by omega)];exact List.getElem?_eq_getElem (by omega)⟩
   refine .skip (.op u hu1 (.skip (.br (fun hu2=>?_) fun _=>.skip (.done rfl stay))))
   refine .skip (.call _ (cont_v n hn x.Leaves _ s1) fun r1 hr1=>.skip (.br (fun hc1=>?_) fun _=>.skip (.done rfl stay)))
   refine .skip (.call _ (cont_v n hn x.BDs _ s2) fun r2 hr2=>.skip (.br (fun hc2=>?_) fun _=>.skip (.done rfl stay)))
   have adds:a.1≠ -1→_:=fun hne=>h4 (by omega) (a.2++[a.1]) (by
    have:=h3.add (x:=x) (by rw[← h5];exact hne) (by rw[← h5];exact h1) (by rw[← h5,hu1,hu2]) (hr1 hc1) (hr2 hc2)
    rw[← h5]at this;simpa using this)
   repeat first |refine .skip ?_ |refine .inl ?_ |refine .tidy rfl ?_
   repeat first |refine .skip ?_ |refine .inl ?_ |refine .tidy rfl ?_
   have hne:a.1≠ -1:=by omega
   refine AtG.call (c:=c_horizon_leaving_local) (fun _:Bool=>True) (llocal_v n hn _ hV a.1 x h1) fun r4 _=>?_
   repeat first |refine .skip ?_ |refine .inl ?_ |refine .tidy rfl ?_
   refine .br (fun hc3=>?_) fun _=>?_
   rotate_left
   ·repeat first |refine .skip ?_ |refine .inl ?_ |refine .tidy rfl ?_
    exact .done rfl stay
   repeat first |refine .skip ?_ |refine .inl ?_ |refine .tidy rfl ?_
   refine .op () (app_v (by have:=h3.1.2;omega)) ?_
   repeat first |refine .skip ?_ |refine .inl ?_ |refine .tidy rfl ?_
   exact .done rfl (adds hne)
  ·repeat first |refine .skip ?_ |refine .inl ?_ |refine .tidy rfl ?_
   exact .done (by simp[tsOk,fzRow];exact decide_eq_true (List.length_map _).symm) ht
 ·repeat first |refine .skip ?_ |refine .inl ?_ |refine .tidy rfl ?_
  refine .eqi (fun _=>?_) fun h1=>?_
  ·repeat first |refine .skip ?_ |refine .inl ?_ |refine .tidy rfl ?_
   repeat first |refine .skip ?_ |refine .inl ?_ |refine .tidy rfl ?_
   refine AtG.loop (fun a:Int×List Int=>IdxI f.Segments (fun pre l=>OwnI f leaf up bd (-1) pre.length l) a) (fun a=>f.Segments.length - a.1.toNat) (fun l:List Int=>OwnI f leaf up bd (-1) f.Segments.length l) rfl (IdxI.start ⟨⟨.nil,by simp⟩,by simp⟩) (by simp;omega) (fun a ha=>?_) (fun t ht=>?_)
   ·refine .skip (.br (fun h=>?_) fun h=>.skip (.done rfl (ha.fin h)))
    obtain⟨x,pre,h1,h2,h3,⟨h5,_⟩,h4⟩:=ha.get h;have stay:=h4 (by omega) a.2 (by simpa using h3.next)
    obtain⟨s1,s2⟩:=seg_small hv _ _ h1;have hpl:pre.length≤6:=by
     have:a.1<(f.Segments.length:Int):=by simpa using h
     omega
    refine .skip (.op x h1 (.skip (.op () rfl (.skip (.br (fun hu=>?_) fun _=>.skip (.done rfl stay))))))
    obtain⟨u,hu1⟩:∃u,at? up a.1=some u:=by
     have hu2:a.1<(up.length:Int):=by simpa using hu
     exact⟨up[a.1.toNat]'(by omega),by unfold at?;rw[if_pos (by omega)];exact List.getElem?_eq_getElem (by omega)⟩
    refine .skip (.op u hu1 (.skip (.br (fun hu2=>?_) fun _=>.skip (.done rfl stay))))
    refine .skip (.call _ (cont_v n hn x.Leaves _ s1) fun r1 hr1=>.skip (.br (fun hc1=>?_) fun _=>.skip (.done rfl stay)))
    refine .skip (.call _ (cont_v n hn x.BDs _ s2) fun r2 hr2=>.skip (.br (fun hc2=>?_) fun _=>.skip (.done rfl stay)))
    have adds:a.1≠ -1→_:=fun hne=>h4 (by omega) (a.2++[a.1]) (by
     have:=h3.add (x:=x) (by rw[← h5];exact hne) (by rw[← h5];exact h1) (by rw[← h5,hu1,hu2]) (hr1 hc1) (hr2 hc2)
     rw[← h5]at this;simpa using this)
    repeat first |refine .skip ?_ |refine .inl ?_ |refine .tidy rfl ?_
    repeat first |refine .skip ?_ |refine .inl ?_ |refine .tidy rfl ?_
    have hne:a.1≠ -1:=by omega
    refine AtG.call (c:=c_horizon_leaving_label) (fun _:Bool=>True) (llabel_v n hn _ hV a.1 x h1) fun r4 _=>?_
    repeat first |refine .skip ?_ |refine .inl ?_ |refine .tidy rfl ?_
    refine .br (fun hc4=>?_) fun _=>?_
    rotate_left
    ·repeat first |refine .skip ?_ |refine .inl ?_ |refine .tidy rfl ?_
     exact .done rfl stay
    repeat first |refine .skip ?_ |refine .inl ?_ |refine .tidy rfl ?_
    refine .op () (app_v (by have:=h3.1.2;omega)) ?_
    repeat first |refine .skip ?_ |refine .inl ?_ |refine .tidy rfl ?_
    exact .done rfl (adds hne)
   ·repeat first |refine .skip ?_ |refine .inl ?_ |refine .tidy rfl ?_
    exact .done (by simp[tsOk,fzRow];exact decide_eq_true (List.length_map _).symm) ht
  ·exact absurd hv.horizon (by omega)
end Go.L
end
section
namespace Go.L
open Go.AM
structure Mini27(up:List Bool)(fw:List Forwarder)(sh:List Sharing):Prop where
 hu:up.length≤100
 hf:fw.length≤40
 hs:sh.length≤40
 mem:∀x∈sh,x.Members.length≤20
theorem long_v(n:Nat)(hn:5000≤n)(up:List Bool)(fw:List Forwarder)(sh:List Sharing):At (c_law27_long.S n (up,fw,sh)) (fun(b:Bool)=>b=false→Mini27 up fw sh):=by
 refine(?_ :AtG n (g_law27_long up fw sh) _);unfold g_law27_long;refine .skip (.op () rfl (.skip (.br (fun _=>.skip (.done rfl fun h=>(by cases h))) fun h1=>.skip (.op () rfl (.skip (.br (fun _=>.skip (.done rfl fun h=>(by cases h))) fun h2=>.skip (.op () rfl (.skip (.br (fun _=>.skip (.done rfl fun h=>(by cases h))) fun h3=>.skip ?_)))))))))
 simp only[decide_eq_false_iff_not]at h1 h2 h3;refine .loop (fun a:Int=>IdxI sh (fun pre (_:Unit)=>∀x∈pre,x.Members.length≤20) (a,())) (fun a=>sh.length - a.toNat) (Sum.elim (fun _=>True) fun _=>∀x∈sh,x.Members.length≤20) rfl (IdxI.start (fun x h=>(by cases h))) (by simp;omega) (fun a ha=>?_) (fun t ht=>?_)
 ·refine .skip (.op () rfl (.skip (.br (fun h=>?_) fun h=>.skip (.done rfl (ha.fin h)))))
  obtain⟨x,pre,e1,e2,e3,_,e4⟩:=ha.get h;refine .skip (.op x e1 (.skip (.op () rfl (.skip (.br (fun _=>.skip (.done rfl trivial)) fun h5=>.skip (.done rfl (e4 (by omega) () fun y hy=>?_)))))))
  rcases List.mem_append.1 hy with hy |hy
  ·exact e3 y hy
  ·simp only[List.mem_singleton]at hy;subst hy;simp only[decide_eq_false_iff_not]at h5;omega
 ·cases t with
  |inl t=>exact .done rfl fun h=>(by cases h)
  |inr t=>exact .skip (.done rfl fun _=>⟨by omega,by omega,by omega,ht⟩)
theorem takes_v(n:Nat)(hn:5000≤n)(f:Fabric)(hv:Vf f)(leaf s bd:Int)(u:Bool)(x:Segment)(hx:at? f.Segments s=some x)(hu:u=true)(h1:leaf∈x.Leaves)(h2:bd∈x.BDs):At (c_law27_takes.S n (f,leaf,s,bd,u)) (fun(b:Bool)=>b=true):=by
 obtain⟨s1,s2⟩:=seg_small hv _ _ hx;refine(?_ :AtG n (g_law27_takes f leaf s bd u) _);unfold g_law27_takes;refine .skip (.loop (fun a:Bool×Int=>IdxI x.Leaves (fun pre (b:Bool)=>leaf∈pre→b=true) (a.2,a.1)) (fun a=>x.Leaves.length - a.2.toNat) (fun b:Bool=>b=true) rfl (IdxI.start (fun h=>(by cases h))) (by simp;omega) (fun a ha=>?_) (fun t ht=>?_))
 ·refine .skip (.op x hx (.skip (.op () rfl (.skip (.br (fun h=>?_) fun h=>.skip (.done rfl (ha.fin h h1)))))))
  obtain⟨y,pre,e1,e2,e3,_,e4⟩:=ha.get h;refine .skip (.br (fun hb=>.skip (.done rfl (e4 (by omega) true fun _=>rfl))) fun hb=>.skip (.op x hx (.skip (.op y e1 (.skip (.done rfl (e4 (by omega) _ fun hm=>?_)))))))
  rcases List.mem_append.1 hm with hm |hm
  ·have:=e3 hm;rw[hb]at this;cases this
  ·simp only[List.mem_singleton]at hm;rw[hm];exact beq_self_eq_true y
 refine .skip (.loop (fun a:Bool×Int=>IdxI x.BDs (fun pre (b:Bool)=>bd∈pre→b=true) (a.2,a.1)) (fun a=>x.BDs.length - a.2.toNat) (fun b:Bool=>b=true) rfl (IdxI.start (fun h=>(by cases h))) (by simp;omega) (fun a ha=>?_) (fun t2 ht2=>?_))
 ·refine .skip (.op x hx (.skip (.op () rfl (.skip (.br (fun h=>?_) fun h=>.skip (.done rfl (ha.fin h h2)))))))
  obtain⟨y,pre,e1,e2,e3,_,e4⟩:=ha.get h;refine .skip (.br (fun hb=>.skip (.done rfl (e4 (by omega) true fun _=>rfl))) fun hb=>.skip (.op x hx (.skip (.op y e1 (.skip (.done rfl (e4 (by omega) _ fun hm=>?_)))))))
  rcases List.mem_append.1 hm with hm |hm
  ·have:=e3 hm;rw[hb]at this;cases this
  ·simp only[List.mem_singleton]at hm;rw[hm];exact beq_self_eq_true y
 exact .skip (.br (fun _=>.skip (.br (fun _=>.skip (.done rfl hu)) fun h=>(by rw[ht2]at h;cases h))) fun h=>(by rw[ht]at h;cases h))
theorem owns_v(n:Nat)(hn:5000≤n)(f:Fabric)(hv:Vf f)(leaf:Int)(up:List Bool)(bd nt:Int)(l:List Int)(ho:OwnI f leaf up bd nt f.Segments.length l):At (c_law27_owns.S n (f,leaf,up,bd,nt,l)) (fun(b:Bool)=>b=true):=by
 have hsg:=hv.segments;have hlen:=ho.1.2;refine(?_ :AtG n (g_law27_owns f leaf up bd nt l) _);unfold g_law27_owns;refine .skip (.loop (fun a:Int=>IdxI l (fun _ (_:Unit)=>True) (a,())) (fun a=>l.length - a.toNat) (Sum.elim (fun _=>False) fun _=>True) rfl (IdxI.start trivial) (by simp;omega) (fun a ha=>?_) (fun t ht=>?_))
 ·refine .skip (.op () rfl (.skip (.br (fun h=>?_) fun h=>.skip (.done rfl trivial))))
  obtain⟨s,pre,e1,e2,_,⟨e5,post,e6⟩,e4⟩:=ha.get h;obtain⟨g1,g2,g3,x,g4,g5,g6,g7⟩:=ho.2 s e2;have hup:s<(up.length:Int):=by
   unfold at? at g5;rw[if_pos g1]at g5;have:=(List.getElem?_eq_some_iff.1 g5).1;omega
  replace e5:a=((pre.length:Nat):Int):=e5
  have next:=e4 (by omega) () trivial
  refine .skip (.op s e1 (.skip (.br (fun h=>(by simp only[decide_eq_true_eq]at h;omega)) fun _=>.skip (.op () rfl (.skip (.br (fun h=>(by simp only[decide_eq_true_eq]at h;omega)) fun _=>.skip (.op () rfl (.skip (.br (fun h=>(by simp only[decide_eq_true_eq]at h;omega)) fun _=>.skip (.br (fun h=>absurd (by simpa using h) g3) fun _=>.skip (.br (fun hp=>?_) fun hp=>?_)))))))))))
  ·simp only[decide_eq_true_eq]at hp;obtain⟨q,r,hq⟩:∃q r,pre=q++[r]:=⟨pre.dropLast,pre.getLast (by intro h0;rw[h0]at e5;simp at e5;omega),(List.dropLast_concat_getLast _).symm⟩
   have hw:IntKind.wrap .i64 (a - 1)=((q.length:Nat):Int):=by
    have:a=((q.length:Nat):Int)+1:=by rw[e5,hq];simp
    have hql:q.length≤10:=by
     have:l.length=q.length+1+(1+post.length):=by rw[e6,hq];simp;omega
     omega
    rw[this,wrap_i64 (by omega) (by omega)];omega
   have hr:at? l (IntKind.wrap .i64 (a - 1))=some r:=by
    rw[hw,at?_nat,e6,hq];simp
   have hlt:r<s:=by
    have hp:=ho.1.1;rw[e6,hq]at hp;have:=(List.pairwise_append.1 hp).2.2 r (by simp) s (by simp)
    exact this
   exact .skip (.op r hr (.skip (.br (fun h=>(by simp only[decide_eq_true_eq]at h;omega)) fun _=>.skip (.op true g5 (.skip (.call _ (takes_v n hn f hv leaf s bd true x g4 rfl g6 g7) fun b hb=>.skip (.br (fun h=>(by rw[hb]at h;cases h)) fun _=>.skip (.done rfl next))))))))
  ·exact .skip (.op true g5 (.skip (.call _ (takes_v n hn f hv leaf s bd true x g4 rfl g6 g7) fun b hb=>.skip (.br (fun h=>(by rw[hb]at h;cases h)) fun _=>.skip (.done rfl next)))))
 ·cases t with
  |inl t=>exact absurd ht id
  |inr t=>exact .skip (.done rfl rfl)
end Go.L
end
section
namespace Go.L
open Go.AM
theorem own_law(n:Nat)(hn:5000≤n)(l:List Int)(leaf:Int)(up:List Bool)(fw:List Forwarder)(sh:List Sharing)(bd nt src mark:Int):At (c_law27_HorizonOwn.S n (l,leaf,up,fw,sh,bd,nt,src,mark)) (fun(b:Bool)=>b=true):=by
 refine(?_ :AtG n (g_law27_HorizonOwn l leaf up fw sh bd nt src mark) _);unfold g_law27_HorizonOwn;refine .skip (.call (fun b:Bool=>b=true) ⟨true,rfl,rfl⟩ fun k hk=>.skip (.call _ (long_v n hn up fw sh) fun b hb=>.br (fun _=>.skip (.done rfl hk)) fun hl=>?_))
 obtain⟨h1,h2,h3,h4⟩:=hb hl;obtain⟨f,hf,hv⟩:=fabric_valid l hn;refine .skip (.call Vf ⟨f,hf,hv⟩ fun g hg=>.skip (.call _ (ingress_v n hn g hg leaf up fw (by omega) bd nt) fun a ha=>.skip (.call _ (egress_v n hn g hg leaf up fw (by omega) sh (by omega) (fun x hx=>by have:=h4 x hx;omega) bd src mark) fun b hb=>.skip (.br (fun _=>.skip ?_) fun h=>(by rw[hk]at h;cases h)))))
 exact .call _ (owns_v n hn g hg leaf up bd nt a ha) fun r hr=>.skip (.br (fun _=>.skip (.call _ (owns_v n hn g hg leaf up bd (-1) b hb) fun q hq=>.skip (.done rfl hq))) fun h=>(by rw[hr]at h;cases h))
end Go.L
end
