/- Parts put together. No conditions. -/
import Derived.Test.YtdbkafoghoenoaaGreatDoorWy
import Derived.Test.YtdbkafoghoenoaaGreatDoorPv2
set_option linter.unusedSectionVars false
set_option linter.unusedSimpArgs false
set_option linter.unusedVariables false
set_option maxRecDepth 100000
section
namespace Go.L
open Go.AM Go.Sort
theorem has_at(n:Nat)(l:List Int)(x:Int)(hn:l.length<n)(hl:l.length<100000):At (c_ref32_has.S n (l,x)) (fun r:Bool=>r=elI l x):=by
 refine(?_ :AtG n (g_ref32_has l x) _);unfold g_ref32_has;refine .skip ?_;refine .loop (fun a:Int=>IdxI l (fun pre (_:Unit)=>¬x∈pre) (a,())) (fun a=>l.length - a.toNat) (Sum.elim (fun _:Unit=>x∈l) fun _=>¬x∈l) rfl (IdxI.start (by simp)) (by simp;omega) (fun a ha=>?_) (fun t ht=>?_)
 ·refine .skip (.op () rfl (.skip (.br (fun h=>?_) fun h=>.skip (.done rfl (ha.fin h)))))
  obtain⟨y,pre,h1,h2,h3,-,h4⟩:=ha.get h;refine .skip (.op y h1 (.skip (.br (fun h=>.skip (.done rfl ?_)) fun h=>.skip (.done rfl (h4 hl () ?_)))))
  ·show x∈l;rw[← eq_of_beq h];exact h2
  ·intro hm;rcases List.mem_append.1 hm with hm |hm
   ·exact h3 hm
   ·simp only[List.mem_singleton]at hm;subst hm;simp at h
 ·cases t with
  |inl t=>exact .done rfl (elI_iff.2 ht).symm
  |inr t=>exact .skip (.done rfl (Bool.eq_false_iff.2 fun h=>ht (elI_iff.1 h)).symm)
theorem rmade_at(n:Nat)(t s m:Int):At (c_ref03_made.S n (t,s,m)) (fun r:V8 Int=>r=madeS t s m):=by
 refine(?_ :AtG n (g_ref03_made t s m) _);refine .skip (.done rfl (v8e rfl rfl ?_ ?_ ?_ ?_ ?_ ?_))
 ·exact w8k (K:=1099511627776) (by kernel_rfl) (by decide)
 ·exact w8k (K:=4294967296) (by kernel_rfl) (by decide)
 ·exact w8k (K:=16777216) (by kernel_rfl) (by decide)
 ·exact w8k (K:=65536) (by kernel_rfl) (by decide)
 ·exact w8k (K:=256) (by kernel_rfl) (by decide)
 ·show IntKind.wrap .u8 m=m % 256;simp[IntKind.wrap,IntKind.bits,IntKind.signed]
theorem rtarget_at(n:Nat){t:Int}(h:inW t):At (c_ref03_Target.S n (65000,t)) (fun r:V8 Int=>r=taC t):=by
 obtain⟨h0,h1⟩:=h;refine(?_ :AtG n (g_ref03_Target 65000 t) _);refine .skip (.call _ (rmade_at n _ _ _) fun r hr=>.skip (.done rfl ?_))
 rw[hr];have e:IntKind.wrap .u64 (IntKind.wrap .u64 (65000:Int)*2 ^ (min (Int.toNat (32:Int)) (IntKind.bits .u64)))=65000*4294967296:=by kernel_rfl
 unfold taC;rw[e,wrap_u64_id h0 (by omega),wrap_u64_id (by omega) (by omega)]
theorem rgroup_at(n:Nat){b:Int}(h0:0≤b)(h1:b<32):At (c_ref32_Group.S n b) (fun r:Int=>r=4009754625+b):=by
 refine(?_ :AtG n (g_ref32_Group b) _);refine .skip (.br (fun h=>(by simp only[decide_eq_true_eq]at h;omega)) fun _=>.skip (.br (fun h=>(by simp only[decide_eq_true_eq]at h;omega)) fun _=>.skip (.done rfl ?_)))
 rw[wrap_i64 (by omega) (by omega),w32 (by omega) (by omega)]
theorem relection_at(n:Nat){a p:Int}(h0:0≤a)(h1:a≤31)(g0:0≤p)(g1:p≤65535):At (c_ref03_Election.S n (a,p)) (fun r:V8 Int×Int=>r=(madeS 6 6 (a*1099511627776+p),0)):=by
 refine(?_ :AtG n (g_ref03_Election a p) _);refine .skip (.br (fun h=>(by simp only[decide_eq_true_eq]at h;omega)) fun _=>.skip (.br (fun h=>(by simp only[decide_eq_true_eq]at h;omega)) fun _=>.skip (.br (fun h=>(by simp only[decide_eq_true_eq]at h;omega)) fun _=>.skip (.br (fun h=>(by simp only[decide_eq_true_eq]at h;omega)) fun _=>.skip (.call _ (rmade_at n _ _ _) fun r hr=>.skip (.done rfl ?_))))))
 have e:IntKind.wrap .u64 (a*2 ^ (min (Int.toNat (40:Int)) (IntKind.bits .u64)))=a*1099511627776:=by
  show IntKind.wrap .u64 (a*1099511627776)=_;exact wrap_u64_id (by omega) (by omega)
 rw[hr,wrap_u64_id (x:=a) h0 (by omega),e,wrap_u64_id (x:=p) g0 (by omega),wrap_u64_id (by omega) (by omega)]
theorem rimport_at(n:Nat):At (c_ref03_Import.S n (0:Int)) (fun r:V8 Int×Int=>r=(madeS 6 2 0,0)):=by
 refine(?_ :AtG n (g_ref03_Import 0) _);exact .skip (.br (fun h=>(by simp at h)) fun _=>.skip (.call _ (rmade_at n _ _ _) fun r hr=>.skip (.done rfl (by rw[hr]))))
theorem rimp_at(n:Nat)(s:Int):At (c_ref01_Import.S n (esV s)) (fun r:Int=>r=0):=⟨(0:Int),by kernel_rfl,rfl⟩
theorem rflag_at(n:Nat):At (c_ref03_flag.S n false) (fun r:Int=>r=0):=⟨(0:Int),by kernel_rfl,rfl⟩
theorem rlabel_at(n:Nat){m:Int}(h0:0≤m)(h1:m≤16777215):At (c_ref03_Label.S n (false,m)) (fun r:V8 Int×Int=>r=(madeS 6 1 m,0)):=by
 refine(?_ :AtG n (g_ref03_Label false m) _);refine .skip (.br (fun h=>(by simp only[decide_eq_true_eq]at h;omega)) fun _=>.skip (.call _ (rflag_at n) fun f hf=>.skip (.call _ (rmade_at n _ _ _) fun r hr=>.skip (.done rfl ?_))))
 rw[hr,hf,wrap_u64_id (x:=m) h0 (by omega),Int.zero_add,wrap_u64_id h0 (by omega)]
theorem rmobility_at(n:Nat){m:Int}(h0:0≤m)(h1:m<4294967296):At (c_ref03_Mobility.S n (false,m)) (fun r:V8 Int=>r=madeS 6 0 m):=by
 refine(?_ :AtG n (g_ref03_Mobility false m) _);refine .skip (.call _ (rflag_at n) fun f hf=>.skip (.call _ (rmade_at n _ _ _) fun r hr=>.skip (.done rfl ?_)))
 rw[hr,hf,wrap_u64_id (x:=m) h0 (by omega),Int.zero_add,wrap_u64_id h0 (by omega)]
theorem rrouter_at(n:Nat){m:Int}(h0:0≤m)(h1:m≤281474976710655):At (c_ref03_Router.S n m) (fun r:V8 Int×Int=>r=(madeS 6 3 m,0)):=by
 refine(?_ :AtG n (g_ref03_Router m) _);exact .skip (.br (fun h=>(by simp only[decide_eq_true_eq]at h;omega)) fun _=>.skip (.call _ (rmade_at n _ _ _) fun r hr=>.skip (.done rfl (by rw[hr]))))
theorem rrm_at(n:Nat)(x:Int)(h0:0≤x)(h1:x<32):At (c_ref01_RouterMAC.S n x) (fun(r:Int×Int)=>r.1=rmV x):=by
 refine(?_ :AtG n (g_ref01_RouterMAC x) _);refine .skip (.br (fun h=>(by simp only[decide_eq_true_eq]at h;omega)) fun _=>.skip (.br (fun h=>(by simp only[decide_eq_true_eq]at h;omega)) fun _=>.skip (.done rfl ?_)))
 show IntKind.wrap .u64 ((2199023255552:Int)+(IntKind.wrap .u64 x))=rmV x;rw[wrap_u64_id h0 (by omega),wrap_u64_id (by omega) (by omega)];rfl
theorem rdom_at(n:Nat){f:Fabric}(hg:Gd f)(s:Int)(u:List Bool)(l:List Route){b:Int}(h0:0≤b)(h1:b<(f.BDs.length:Int)):At (c_ref32_maker_domain.S n (⟨f,s,u,l⟩,b)) (fun r:V8 Int=>r=taC (bdD f b).Target):=by
 have hb:at? f.BDs b=some (bdD f b):=(at_inD (α:=BD) ⟨0,0,0,⟨0,0⟩,0⟩ h0 h1).1;have hm:bdD f b∈f.BDs:=(at_inD (α:=BD) ⟨0,0,0,⟨0,0⟩,0⟩ h0 h1).2;refine(?_ :AtG n (g_ref32_maker_domain ⟨f,s,u,l⟩ b) _);exact .skip (.op _ hb (.skip (.call _ (rtarget_at n (hg.bd _ hm).1) fun r hr=>.skip (.done rfl hr))))
theorem rten_at(n:Nat){f:Fabric}(hg:Gd f)(s:Int)(u:List Bool)(l:List Route){b:Int}(h0:0≤b)(h1:b<(f.BDs.length:Int))(hgw:(bdD f b).Gateway≠0):At (c_ref32_maker_tenant.S n (⟨f,s,u,l⟩,b)) (fun r:V8 Int=>r=taC (tnD f (bdD f b).Tenant).Target):=by
 have hb:at? f.BDs b=some (bdD f b):=(at_inD (α:=BD) ⟨0,0,0,⟨0,0⟩,0⟩ h0 h1).1;have hm:bdD f b∈f.BDs:=(at_inD (α:=BD) ⟨0,0,0,⟨0,0⟩,0⟩ h0 h1).2;obtain⟨t0,-,t1⟩:=(hg.bd _ hm).2.2 hgw;have ht:at? f.Tenants (bdD f b).Tenant=some (tnD f (bdD f b).Tenant):=(at_inD (α:=Tenant) ⟨0,0⟩ t0 t1).1;have htm:tnD f (bdD f b).Tenant∈f.Tenants:=(at_inD (α:=Tenant) ⟨0,0⟩ t0 t1).2;refine(?_ :AtG n (g_ref32_maker_tenant ⟨f,s,u,l⟩ b) _);exact .skip (.op _ hb (.skip (.op _ ht (.skip (.call _ (rtarget_at n (hg.ten _ htm).1) fun r hr=>.skip (.done rfl hr))))))
theorem rrou_at(n:Nat)(f:Fabric)(s:Int)(u:List Bool)(l:List Route)(h0:0≤s)(h1:s<32):At (c_ref32_maker_router.S n ⟨f,s,u,l⟩) (fun r:V8 Int=>r=madeS 6 3 (rmV s)):=by
 refine(?_ :AtG n (g_ref32_maker_router ⟨f,s,u,l⟩) _);refine .skip (.call _ (rrm_at n s h0 h1) fun r hr=>.skip (.call (fun r:V8 Int×Int=>r=(madeS 6 3 (rmV s),0)) ?_ fun q hq=>.skip (.done rfl (by rw[hq]))))
 rw[hr];exact rrouter_at n (by unfold rmV;omega) (by unfold rmV;omega)
theorem rrdx_at(n:Nat)(hn:5000≤n){f:Fabric}(hv:Vf f){self:Int}(h0:0≤self)(h1:self<f.Leaves){x:Int}(x0:0≤x)(x1:x<65536):At (c_ref22_rd.S n (f,self,x)) (fun r:Int=>r=rdS (lpV self) x):=by
 have hL:=hv.leaves;refine(?_ :AtG n (g_ref22_rd f self x) _);refine .skip (.call _ (refvalid_v n hn f hv) fun r3 h3=>.skip (.br (fun h=>(by rw[h3]at h;cases h)) fun _=>.skip (.call _ (rwithin_at n self _) fun r6 h6=>.skip (.br (fun h=>?_) fun _=>.skip (.call _ (refloop_v n hn hv h0 h1) fun r8 h8=>.skip (.call _ (?_ :At _ (fun r:Int=>r=rdS (lpV self) x)) fun r9 h9=>.skip (.done rfl h9)))))))
 ·rw[h6,wrap_i64 (by omega) (by omega)]at h
  simp[h0,show self≤f.Leaves - 1 by omega]at h
 ·rw[h8,wrap_u16_id x0 x1];exact rrd_at n (by unfold inW lpV;omega) x0 x1
theorem segrd_at(n:Nat)(hn:5000≤n){f:Fabric}(hv:Vf f){self:Int}(h0:0≤self)(h1:self<f.Leaves):At (c_ref22_SegmentRD.S n (f,self)) (fun r:Int=>r=rdS (lpV self) 0):=by
 refine(?_ :AtG n (g_ref22_SegmentRD f self) _);exact .skip (.call _ (rrdx_at n hn hv h0 h1 (by omega) (by omega)) fun r hr=>.skip (.done rfl hr))
theorem tenrd_at(n:Nat)(hn:5000≤n){f:Fabric}(hv:Vf f){self:Int}(h0:0≤self)(h1:self<f.Leaves){t:Int}(t0:0≤t)(t1:t<(f.Tenants.length:Int)):At (c_ref22_TenantRD.S n (f,self,t)) (fun r:Int=>r=rdS (lpV self) (1001+t)):=by
 have hT:=hv.tenants;refine(?_ :AtG n (g_ref22_TenantRD f self t) _);refine .skip (.op () rfl (.skip (.call _ (rwithin_at n t _) fun r4 h4=>.skip (.br (fun h=>?_) fun _=>.skip (.call _ (by rw[wrap_i64 (x:=1001+t) (by omega) (by omega)];exact rrdx_at n hn hv h0 h1 (by omega) (by omega)) fun r hr=>.skip (.done rfl hr))))))
 have h:=nbT h;rw[h4,wrap_i64 (by omega) (by omega)]at h
 simp[t0,show t≤(f.Tenants.length:Int) - 1 by omega]at h
theorem rlab_at(n:Nat)(hn:5000≤n){f:Fabric}(hv:Vf f){s:Int}(h0:0≤s)(h1:s<(f.Segments.length:Int))(hm:1<(sgD f s).Leaves.length):At (c_ref22_Label.S n (f,s)) (fun r:Int=>r=s+1):=by
 have hS:=hv.segments;have hsg:at? f.Segments s=some (sgD f s):=(at_inD (α:=Segment) ⟨[],[]⟩ h0 h1).1;have hmu:At (c_ref22_Multihomed.S n (f,s)) (fun b:Bool=>b=true):=by
  refine(?_ :AtG n (g_ref22_Multihomed f s) _);refine .skip (.call _ (refvalid_v n hn f hv) fun r3 h3=>.skip (.br (fun _=>.skip (.op () rfl (.skip (.call _ (rwithin_at n s _) fun r4 h4=>.skip (.br (fun _=>.skip (.op _ hsg (.skip (.op () rfl (.skip (.done rfl ?_)))))) fun h=>?_))))) fun h=>(by rw[h3]at h;cases h)))
  ·simp only[gt_iff_lt,decide_eq_true_eq];omega
  ·rw[h4,wrap_i64 (by omega) (by omega)]at h
   simp[h0,show s≤(f.Segments.length:Int) - 1 by omega]at h
 refine(?_ :AtG n (g_ref22_Label f s) _);refine .skip (.call _ hmu fun r hr=>.skip (.br (fun h=>(by rw[hr]at h;cases h)) fun _=>.skip (.done rfl ?_)))
 rw[wrap_i64 (by omega) (by omega),w32 (by omega) (by omega)]
theorem usable_at(n:Nat)(hn:5000≤n){o:origin_origin}(hg:Gd o.fabric)(hu:o.up.length=o.fabric.Segments.length)(l:List Route)(x:Near):At (c_ref32_maker_usable.S n (⟨o.fabric,o.self,o.up,l⟩,x)) (fun r:Bool=>r=okO o x):=by
 refine(?_ :AtG n (g_ref32_maker_usable ⟨o.fabric,o.self,o.up,l⟩ x) _);refine .skip (.br (fun h=>.skip (.done rfl ?_)) fun h0=>.skip (.op () rfl (.skip (.br (fun h=>.skip (.done rfl ?_)) fun h1=>?_))))
 ·simp only[decide_eq_true_eq]at h;simp[okO,liveO,show ¬0≤x.Segment by omega]
 ·simp only[decide_eq_true_eq]at h;have h:(o.up.length:Int)≤x.Segment:=h;simp[okO,liveO,show ¬x.Segment<(o.up.length:Int)by omega]
 simp only[decide_eq_false_iff_not]at h0 h1;have h0:0≤x.Segment:=by omega
 have h1:x.Segment<(o.up.length:Int):=by have:¬x.Segment≥(o.up.length:Int):=h1;omega
 obtain⟨u,hu1,hu2⟩:=at_in o.up x.Segment h0 h1;have hsg:at? o.fabric.Segments x.Segment=some (sgD o.fabric x.Segment):=(at_inD (α:=Segment) ⟨[],[]⟩ h0 (by omega)).1
 have hsm:sgD o.fabric x.Segment∈o.fabric.Segments:=(at_inD (α:=Segment) ⟨[],[]⟩ h0 (by omega)).2
 have hx:=hg.seg _ hsm;refine .skip (.op u hu1 (.skip (.br (fun h=>.skip (.done rfl ?_)) fun h2=>?_)))
 ·simp[okO,liveO,hu1,nbT h]
 have h2:=nbF h2;refine .skip (.br (fun h=>.skip (.done rfl ?_)) fun h3=>?_)
 ·simp[okO,h]
 refine .skip (.br (fun h=>.skip (.done rfl ?_)) fun h4=>?_)
 ·simp only[decide_eq_true_eq]at h;simp[okO,show ¬x.MAC≤281474976710655 by omega]
 simp only[decide_eq_false_iff_not]at h4;have h4:x.MAC≤281474976710655:=by omega
 refine .skip (.call _ (At.eq fun k=>ref_Multicast (n:=n) x.MAC k) fun r9 h9=>.skip (.br (fun h=>.skip (.done rfl ?_)) fun h5=>?_))
 ·rw[h9]at h;simp[okO,h]
 rw[h9]at h5;have hv:liveO o x.Segment=elI (sgD o.fabric x.Segment).Leaves o.self:=by
  unfold liveO;simp[h0,h1,hu1,h2]
 have fin:(x.HasIP||x.IP==0)=true→okO o x=(elI (sgD o.fabric x.Segment).Leaves o.self&&elI (sgD o.fabric x.Segment).BDs x.BD):=fun hi=>by
  unfold okO;rw[hv,h3,h5,hi,decide_eq_true h4];simp
 refine .skip (.br (fun h=>.skip (.br (fun h'=>.skip (.done rfl ?_)) fun h'=>.skip (.op _ hsg ?_))) fun h=>.skip (.op _ hsg ?_))
 ·have h:=nbT h;have h':(x.IP==0)=false:=by simpa[bne]using h'
  simp[okO,h,h']
 ·have h':(x.IP==0)=true:=by simpa[bne]using h'
  refine .skip (.call _ (has_at n _ _ (by omega) (by omega)) fun r13 h13=>.skip (.br (fun hb=>.skip (.call _ (has_at n _ _ (by omega) (by omega)) fun r14 h14=>.skip (.done rfl ?_))) fun hb=>.skip (.done rfl ?_)))
  ·rw[fin (by rw[h'];simp),← h13,hb,h14];simp
  ·rw[fin (by rw[h'];simp),← h13,hb];simp
 ·have h:=nbF h;refine .skip (.call _ (has_at n _ _ (by omega) (by omega)) fun r13 h13=>.skip (.br (fun hb=>.skip (.call _ (has_at n _ _ (by omega) (by omega)) fun r14 h14=>.skip (.done rfl ?_))) fun hb=>.skip (.done rfl ?_)))
  ·rw[fin (by rw[h];simp),← h13,hb,h14];simp
  ·rw[fin (by rw[h];simp),← h13,hb];simp
theorem sort_d(n:Nat)(hn:5000≤n){l:List (V8 Int)}{k:Nat}(hk:k=l.length)(hl:l.length<4000)(hok:∀x∈l,okC x):At (c_ref03_Sort_d.S n (l,k)) (fun r:List (V8 Int)=>r=sortU l):=by
 refine⟨_,?_,rfl⟩;show(if k=l.length then c_ref03_Sort.S n l else none)=_
 rw[if_pos hk];exact refSort_run n l (by omega) (by omega) hok
theorem sortU_congr{l m:List (V8 Int)}(hm:∀c∈m,okC c)(h:∀c,c∈l↔c∈m):sortU l=sortU m:=by
 have hl:∀c∈l,okC c:=fun c hc=>hm c ((h c).1 hc)
 exact sortU_ext m hm (sortU_strict l hl) fun c=>by rw[sortU_mem,h c]
theorem rencap_v(N:Nat):c_ref03_Encap.S N (8:Int)=some (enC,(0:Int)):=by kernel_rfl
abbrev ltK(a b:Route):Prop:=cmpN a.N b.N<0
noncomputable def newR(lp:Int)(nl:NLRI)(co:List (V8 Int))(t:Tunnel):Route:=⟨nl,⟨0,[],lp,false,0,true,100,false,0,[],sortU (enC::co),t⟩,0,false⟩
theorem gAdd_at(vo vc n:Nat)(hn:100000≤n){f:Fabric}{self lp:Int}{up:List Bool}(hlp:At (c_ref22_Loopback.S n (f,self)) (fun r:Int=>r=lp)){out:List Route}{co:List (V8 Int)}{nl:NLRI}(t:Tunnel)(hco:∀c∈co,okC c)(hcl:co.length≤3000)
 (hout:out.Pairwise ltK) (hlen:out.length≤70000) (hok:∀y∈out,okN y.N) (hnl:okN nl) (hne:∀y∈out,cmpN y.N nl≠0):
 At ((gAdd vo vc f self up out.length out co nl t).run n) (fun r:List Route=>r.Pairwise ltK∧r.Perm (newR lp nl co t::out)):=by
 refine(?_ :AtG n (gAdd vo vc f self up out.length out co nl t) _);unfold gAdd;refine .skip (.call (fun r=>r=(enC,(0:Int))) ⟨_,rencap_v n,rfl⟩ fun r8 h8=>.skip (.call _ hlp fun r9 h9=>.skip ?_))
 subst h8 h9;refine .op () (ifU ⟨rfl,by simp[roomy];omega⟩) (.call1 _ (sort_d n (by omega) rfl (by simp;omega) (fun x hx=>?_)) fun r10 h10=>.skip ?_)
 ·rcases List.mem_append.1 hx with hx |hx
  ·exact hco x hx
  ·simp only[List.mem_singleton]at hx;subst hx;exact enC_ok
 have hso:r10=sortU (enC::co):=by
  rw[h10];refine sortU_congr (fun c hc=>?_) fun c=>by simp[or_comm]
  rcases List.mem_cons.1 hc with rfl |hc
  ·exact enC_ok
  ·exact hco c hc
 clear h10;subst hso;generalize hX:newR r9 nl co t=X;have hXN:X.N=nl:=by rw[← hX];rfl
 have hw:nwR r9 (sortU (enC::co)) nl t=[X]:=by rw[← hX];rfl
 rw[hw];refine .loop (fun a:Int=>∃j:Nat,a=(j:Int)∧j≤out.length∧∀q (h:q<out.length),q<j→ltK out[q] X) (fun a=>out.length - a.toNat) (fun t:Int=>∃k:Nat,t=(k:Int)∧k≤out.length∧(∀q (h:q<out.length),q<k→ltK out[q] X)∧∀h:k<out.length,¬ltK out[k] X) rfl
  ⟨0,rfl,Nat.zero_le _,fun q _ h=>absurd h (Nat.not_lt_zero _)⟩ (by show out.length - (0:Int).toNat<n;omega) (fun a ha=>?_) (fun t17 ht=>?_)
 ·obtain⟨j,rfl,hj,hlo⟩:=ha;refine .skip (.br (fun h=>?_) fun h=>.skip (.done rfl ⟨j,rfl,hj,hlo,fun h'=>?_⟩))
  ·simp only[decide_eq_true_eq]at h;have hjl:j<out.length:=by omega
   refine .skip (.op () (ifU ⟨by omega,by omega⟩) (.skip (.op out[j] (by show out[(j:Int).toNat]? =_;rw[Int.toNat_natCast];exact List.getElem?_eq_getElem hjl) (.skip (.call _ (compare_at n out[j].N nl (hok _ (List.getElem_mem hjl)) hnl) fun r13 h13=>.skip (.br (fun hc=>.skip (.done rfl ?_)) fun hc=>.skip (.done rfl ?_)))))))
   ·simp only[decide_eq_true_eq,h13]at hc;refine⟨⟨j+1,W_eq (by omega) (by omega),by omega,fun q h' hq=>?_⟩,?_⟩
    ·by_cases e:q=j
     ·subst e;show cmpN _ X.N<0;rw[hXN];exact hc
     ·exact hlo q h' (by omega)
    ·show out.length - (IntKind.wrap .i64 ((j:Int)+1)).toNat<out.length - ((j:Int)).toNat;rw[W_eq (x:=(j:Int)+1) (n:=j+1) (by omega) (by omega)];simp only[Int.toNat_natCast];omega
   ·simp only[decide_eq_false_iff_not,h13]at hc;exact⟨j,rfl,hj,hlo,fun _=>by show ¬cmpN _ X.N<0;rw[hXN];exact hc⟩
  ·simp only[decide_eq_false_iff_not]at h;omega
 ·obtain⟨k,rfl,hk,hlo,hhi⟩:=ht;have hgt:∀h:k<out.length,ltK X out[k]:=fun h=>by
   have h1:=hhi h;have h2:=hne _ (List.getElem_mem h);have h3:=cmpN_swap out[k].N X.N;simp only[ltK]at h1 ⊢;rw[hXN]at h1 h3 ⊢;omega
  have fin:∀r:List Route,r=out.take k++X::out.drop k→r.Pairwise ltK∧r.Perm (X::out):=fun r hr=>by
   subst hr;refine⟨ins_strict ltK (fun a b c=>cmpN_trans) hk hout hlo hgt,?_⟩
   refine List.perm_middle.trans ?_;rw[List.take_append_drop]
  refine .skip (.op k (by show(if 0≤(k:Int)∧(k:Int)≤(out.length:Int)then some (k:Int).toNat else none)=_;rw[if_pos (by omega),Int.toNat_natCast]) (.skip (.sp (fun hz=>?_) fun hz=>.sp (fun hl=>?_) fun hl=>?_)))
  ·simp only[eqz,decide_eq_true_eq]at hz;have hz:k=0:=by omega
   subst hz;refine .op () (by show(if((0:Nat):Int)=0 then some ()else none)=some ();exact if_pos hz) (.op () (ifU ⟨⟨rfl,by omega⟩,by simp[roomy,jn];omega⟩) (.op () (ifU ⟨⟨Nat.zero_le _,by omega⟩,by simp[roomy,jn];omega⟩) ?_))
   repeat first |refine .skip ?_ |refine .inl ?_ |refine .tidy rfl ?_
   refine .done rfl (fin _ ?_);simp[jn]
  ·simp only[ltn,decide_eq_true_eq]at hl;simp only[eqz,decide_eq_false_iff_not]at hz;refine .op k (by show(if 0<(k:Int)∧(k:Int)<(out.length:Int)then some (k:Int).toNat else none)=_;rw[if_pos (by omega),Int.toNat_natCast]) (.op () (ifU ⟨⟨rfl,by omega⟩,by simp[roomy,jn];omega⟩) (.op () (ifU ⟨⟨hk,by omega⟩,by simp[roomy,jn];omega⟩) ?_))
   repeat first |refine .skip ?_ |refine .inl ?_ |refine .tidy rfl ?_
   refine .done rfl (fin _ ?_);simp only[jn];rw[List.drop_zero,List.take_length,Nat.zero_add,List.take_of_length_le (l:=List.drop k out) (by simp)]
   rfl
  ·simp only[ltn,decide_eq_false_iff_not]at hl;simp only[eqz,decide_eq_false_iff_not]at hz;have hkl:k=out.length:=by omega
   refine .op () (ifU ⟨by omega,by omega⟩) (.skip (.op () (ifU ⟨hk,by simp[roomy,jn];omega⟩) ?_))
   repeat first |refine .skip ?_ |refine .inl ?_ |refine .tidy rfl ?_
   refine .done rfl (fin _ ?_);rw[List.drop_of_length_le (by omega)]
end Go.L
end
section
namespace Go.AM
theorem AtG.callS{P:Program}[Globs]{ρ:Type}{n:Nat}{p:ρ→Prop}{z:SN}{c:Ctr P}{x:c.X}{k:c.sh.El→G P ρ}(q:c.sh.El→Prop)(h:At (c.S n x) q)(hk:∀r,q r→AtG n (k r) p):AtG n (.callS z c x k) p:=
 At.bind (g:=fun r=>(k r).run n) h hk
end Go.AM
namespace Go.L
open Go.AM Go.Sort
theorem fm_app{α β:Type}(f g:α→List β):∀l:List α,(l.flatMap fun x=>f x++g x).Perm (l.flatMap f++l.flatMap g)
 | []=>by simp
 |a::l=>by
  simp only[List.flatMap_cons];refine((fm_app f g l).append_left (f a++g a)).trans ?_;rw[List.append_assoc,List.append_assoc];refine List.Perm.append_left _ ?_;rw[← List.append_assoc,← List.append_assoc];exact List.perm_append_comm.append_right _
theorem fil_fm{α β:Type}(p:α→Bool)(f:α→β):∀l:List α,(l.flatMap fun x=>if p x=true then[f x]else[])=(l.filter p).map f
 | []=>rfl
 |a::l=>by
  rw[List.flatMap_cons,List.filter_cons,fil_fm p f l];split<;>rfl
theorem fil_fm2{α β:Type}(p:α→Bool)(f:α→List β):∀l:List α,(l.flatMap fun x=>if p x=true then f x else[])=(l.filter p).flatMap f
 | []=>rfl
 |a::l=>by
  rw[List.flatMap_cons,List.filter_cons,fil_fm2 p f l];grind
theorem idx_fil{p:Int→Bool}{n:Nat}(hp:∀b,p b=true→b<(n:Int)):∀m:Nat,n≤m→(idx m).filter p=(idx n).filter p
 | 0,h=>by grind
 |m+1,h=>by
  by_cases e:n=m+1
  ·subst e;rfl
  ·rw[idx_succ,List.filter_append,idx_fil hp m (by omega),List.filter_cons,if_neg (fun hc=>by have:=hp _ hc;omega)]
   simp
theorem idx_pre{i n:Nat}(h:i≤n):idx i<+:idx n:=by
 induction n with
 |zero=>grind
 |succ n ih=>
  by_cases e:i=n+1
  ·subst e;exact List.prefix_rfl
  ·rw[idx_succ];grind
theorem fm_pre{α β:Type}{F:α→List β}{l m:List α}(h:l<+:m):l.flatMap F<+:m.flatMap F:=by
 obtain⟨t,rfl⟩:=h;grind
theorem fm_succ{β:Type}(F:Int→List β)(i:Nat):(idx (i+1)).flatMap F=(idx i).flatMap F++F (i:Int):=by
 rw[idx_succ,List.flatMap_append];simp
theorem useF_pre(o:origin_origin):∀(post pre:List Near),useF o pre<+:useF o (pre++post)
 | [],pre=>by grind
 |x::post,pre=>by
  have h:=useF_pre o post (pre++[x]);rw[List.append_assoc]at h;refine List.IsPrefix.trans ?_ h;rw[useF_snoc];grind
theorem useF_any(o:origin_origin)(q:origin_place)(l:List Near):∀pre:List Near,(q∈(useF o pre).map plN↔∃m∈pre,okO o m=true∧plN m=q)→(q∈(useF o (pre++l)).map plN↔∃m∈pre++l,okO o m=true∧plN m=q):=by
 induction l with
 |nil=>grind
 |cons x l ih=>
  intro pre h;have:=ih (pre++[x]) (by
   rw[useF_snoc];grind)
  grind
theorem useF_iff(o:origin_origin)(q:origin_place)(l:List Near):q∈(useF o l).map plN↔∃m∈l,okO o m=true∧plN m=q:=useF_any o q l [] (by simp[useF])
noncomputable def domF(o:origin_origin)(b:Int):List Route:=(if carO o b=true then[floodR o b]else[])++if prefB o b=true then[prefR o b]else[]
noncomputable def segF(o:origin_origin)(s:Int):List Route:=(if shB o s=true then[segR o s]else[])++((if shB o s=true then(sgD o.fabric s).BDs.map (partR o s)else[])++if shB o s=true then[wholeR o s]else[])
noncomputable def lisD(o:origin_origin):List Route:=(idx o.fabric.BDs.length).flatMap (domF o)
noncomputable def lisS(o:origin_origin):List Route:=(idx o.fabric.Segments.length).flatMap (segF o)
noncomputable def lisE(o:origin_origin):List Route:=(useF o o.near).flatMap (addrR o)
noncomputable def lisR(o:origin_origin):List Route:=lisD o++lisS o++lisE o
theorem perm6{α:Type}(a b c d e f:List α):((a++f)++(b++(d++c))++e).Perm (a++b++c++d++e++f):=by
 simp only[List.append_assoc];refine List.Perm.append_left _ ?_;refine List.perm_append_comm.trans ?_;simp only[List.append_assoc];refine List.Perm.append_left _ ?_;rw[← List.append_assoc d c,← List.append_assoc c d];exact List.perm_append_comm.append_right _
theorem lisR_perm{o:origin_origin}(hg:Gd o.fabric):(lisR o).Perm (allO o):=by
 have hcar:∀b,carO o b=true→b<(o.fabric.BDs.length:Int):=fun b h=>(car_bd hg h).2
 have hpre:∀b,prefB o b=true→b<(o.fabric.BDs.length:Int):=fun b h=>by
  unfold prefB at h;grind
 unfold allO carL shL;rw[idx_fil hcar 32 hg.bds,idx_fil hpre 32 hg.bds];refine List.Perm.trans ?_ (perm6 _ _ _ _ _ _);unfold lisR lisD lisS;refine List.Perm.append (List.Perm.append ?_ ?_) (List.Perm.refl _)
 ·refine(fm_app _ _ _).trans ?_;rw[fil_fm,fil_fm]
 ·refine(fm_app _ _ _).trans ?_;rw[fil_fm];refine List.Perm.append_left _ ?_;refine(fm_app _ _ _).trans ?_;rw[fil_fm,fil_fm2]
structure RefH(o:origin_origin):Prop where
 vf:Vf o.fabric
 ad:o.address=lpV o.self
 ro:o.router=rmV o.self
 s0:0≤o.self
 s1:o.self<o.fabric.Leaves
 up:o.up.length=o.fabric.Segments.length
 ne:o.near.length≤1000
 cl:o.claims.length≤1000
 sq:∀c∈o.claims,0≤c.Seq∧c.Seq<4294967296
 nr:∀x∈o.near,inW x.IP
theorem RefH.eq{o:origin_origin}(h:RefH o):mkA o.fabric o.self o.up o.near o.claims=o:=by
 obtain⟨f,s,a,r,u,ne,cl⟩:=o;have h1:a=lpV s:=h.ad;have h2:r=rmV s:=h.ro;subst h1 h2;rfl
theorem RefH.keys{o:origin_origin}(h:RefH o):(lisR o).Pairwise (fun a b=>cmpN a.N b.N≠0):=by
 have k:=keys_pw h.vf o.self o.up o.near o.claims;rw[h.eq]at k;refine((lisR_perm (gd_of h.vf)).pairwise_iff ?_).2 k;intro x y hxy hc;have:=cmpN_swap y.N x.N;omega
theorem RefH.ok{o:origin_origin}(h:RefH o){x:Route}(hx:x∈lisR o):okN x.N:=by
 have k:=orig_of h.vf ⟨h.s0,h.s1⟩ o.up h.nr o.claims x;rw[h.eq]at k;exact(k ((lisR_perm (gd_of h.vf)).subset hx)).n.ok
theorem RefH.len{o:origin_origin}(h:RefH o):(lisR o).length≤62184:=by
 rw[(lisR_perm (gd_of h.vf)).length_eq];exact allO_len o (gd_of h.vf) h.ne
def SP(A out:List Route):Prop:=out.Pairwise ltK∧out.Perm A
theorem SP.start:SP [] []:=⟨List.Pairwise.nil,List.Perm.refl _⟩
theorem SP.add(vo vc n:Nat)(hn:100000≤n){o:origin_origin}(h:RefH o){A out:List Route}{X:Route}{co:List (V8 Int)}{nl:NLRI}{t:Tunnel}(hs:SP A out)(hp:A++[X]<+:lisR o)(hX:newR o.address nl co t=X)(hco:∀c∈co,okC c)(hcl:co.length≤3000):
 At ((gAdd vo vc o.fabric o.self o.up out.length out co nl t).run n) (SP (A++[X])):=by
 obtain⟨h1,h2⟩:=hs;have hll:=hp.length_le;rw[List.length_append]at hll;have hL:=h.len;have hAX:∀y∈A++[X],y∈lisR o:=fun y hy=>hp.subset hy
 have hlp:At (c_ref22_Loopback.S n (o.fabric,o.self)) (fun r:Int=>r=o.address):=by
  rw[h.ad];exact refloop_v n (by omega) h.vf h.s0 h.s1
 have hXN:nl=X.N:=by rw[← hX];rfl
 have hkey:∀y∈A,cmpN y.N X.N≠0:=fun y hy=>by
  have:=h.keys.sublist hp.sublist;grind
 refine(gAdd_at vo vc n hn hlp t hco hcl h1 (by rw[h2.length_eq];omega) (fun y hy=>h.ok (hAX y (List.mem_append_left _ (h2.subset hy)))) (hXN▸h.ok (hAX X (by simp))) (fun y hy=>hXN▸hkey y (h2.subset hy))).mono fun r hr=>⟨hr.1,?_⟩
 rw[hX]at hr;refine hr.2.trans ?_;refine(List.Perm.cons _ h2).trans ?_;exact(List.perm_append_singleton X A).symm
theorem SP.one{A B r q:List Route}(h1:SP A r)(h2:SP B q)(h:A.Perm B):r=q:=by
 have hp:r.Perm q:=h1.2.trans (h.trans h2.2.symm);refine hp.eq_of_pairwise (fun a b ha hb h3 h4=>?_) h1.1 h2.1
 have:=cmpN_swap a.N b.N;simp only[ltK]at h3 h4;omega
theorem pre_one{α:Type}{A l:List α}{x:α}{r:List α}(h:A++(x::r)<+:l):A++[x]<+:l:=by
 refine List.IsPrefix.trans ?_ h;exact⟨r,by simp⟩
theorem at_app{α:Type}{l m:List α}{i:Int}{y:α}(h:at? l i=some y):at? (l++m) i=some y:=by
 grind [at?]
end Go.L
end
section
namespace Go.L
open Go.AM Go.Sort
theorem refRoutes_out(n:Nat)(hn:5000≤n){f:Fabric}(hv:Vf f){self:Int}{up:List Bool}{near:List Near}{claims:List Claim}(h:self<0∨f.Leaves≤self∨up.length≠f.Segments.length):At (c_ref32_Routes.S n (f,self,up,near,claims)) (fun r:List Route=>r=[]):=by
 refine(?_ :AtG n (g_ref32_Routes f self up near claims) _);unfold g_ref32_Routes;refine .skip (.call _ (refcheck_v n hn f hv) fun r6 h6=>.skip (.br (fun h=>(by rw[h6]at h;cases h)) fun _=>.skip (.br (fun _=>.skip (.done rfl rfl)) fun h0=>.skip (.br (fun _=>.skip (.done rfl rfl)) fun h1=>.skip (.op () rfl (.skip (.op () rfl (.skip (.br (fun _=>.skip (.done rfl rfl)) fun h2=>?_)))))))))
 simp at h0 h1 h2;omega
theorem ok_0:∀c∈([]:List (V8 Int)),okC c:=by simp
theorem ok_c{a:V8 Int}{l:List (V8 Int)}(h:okC a)(hl:∀c∈l,okC c):∀c∈a::l,okC c:=List.forall_mem_cons.2 ⟨h,hl⟩
theorem ok_6(k n:Int)(h:0≤k∧k<256):okC (madeS 6 k n):=made_ok 6 k n (by omega) h
section
variable {o:origin_origin} (h:RefH o)
include h
theorem refRoutes_at(n:Nat)(hn:100000≤n):At (c_ref32_Routes.S n (o.fabric,o.self,o.up,o.near,o.claims)) (SP (lisR o)):=by
 have hg:=gd_of h.vf;have hv:=h.vf;have hL:=hv.leaves;have hs0:=h.s0;have hs1:=h.s1;have hsl:=hg.segs;have hbl:=hg.bds;have hne:=h.ne;have hcl:=h.cl;have hup:=h.up;have hel:=hg.elect;have hlo:At (c_ref22_Loopback.S n (o.fabric,o.self)) (fun r:Int=>r=o.address):=by rw[h.ad];exact refloop_v n (by omega) hv hs0 hs1
 have hrd:∀{b:Int},0≤b→b<(o.fabric.BDs.length:Int)→At (c_ref22_BDRD.S n (o.fabric,o.self,b)) (fun r:Int=>r=rdS o.address (1+b)):=fun {b} b0 b1=>by
  have:=bdrd_at n (by omega) hv hs0 hs1 b
  unfold bdrV at this;rw[if_pos ⟨b0,b1⟩,← h.ad]at this;exact this
 have htrd:∀{t:Int},0≤t→t<(o.fabric.Tenants.length:Int)→At (c_ref22_TenantRD.S n (o.fabric,o.self,t)) (fun r:Int=>r=rdS o.address (1001+t)):=fun {t} t0 t1=>by
  rw[h.ad];exact tenrd_at n (by omega) hv hs0 hs1 t0 t1
 have hsrd:At (c_ref22_SegmentRD.S n (o.fabric,o.self)) (fun r:Int=>r=rdS o.address 0):=by
  rw[h.ad];exact segrd_at n (by omega) hv hs0 hs1
 have hrou:∀l,At (c_ref32_maker_router.S n ⟨o.fabric,o.self,o.up,l⟩) (fun r:V8 Int=>r=madeS 6 3 o.router):=fun l=>by
  rw[h.ro];exact rrou_at n _ _ _ _ hs0 (by omega)
 have hbdA:∀{b:Int},0≤b→b<(o.fabric.BDs.length:Int)→at? o.fabric.BDs b=some (bdD o.fabric b)∧bdD o.fabric b∈o.fabric.BDs:=fun {b} b0 b1=>at_inD (α:=BD) ⟨0,0,0,⟨0,0⟩,0⟩ b0 b1
 have htnA:∀{b:Int},0≤b→b<(o.fabric.Tenants.length:Int)→at? o.fabric.Tenants b=some (tnD o.fabric b):=fun {b} b0 b1=>(at_inD (α:=Tenant) ⟨0,0⟩ b0 b1).1
 have hsgA:∀{b:Int},0≤b→b<(o.fabric.Segments.length:Int)→at? o.fabric.Segments b=some (sgD o.fabric b)∧sgD o.fabric b∈o.fabric.Segments:=fun {b} b0 b1=>at_inD (α:=Segment) ⟨[],[]⟩ b0 b1
 refine(?_ :AtG n (g_ref32_Routes o.fabric o.self o.up o.near o.claims) _);unfold g_ref32_Routes;refine .skip (.call _ (refcheck_v n (by omega) o.fabric hv) fun r6 h6=>.skip (.br (fun h=>(by rw[h6]at h;cases h)) fun _=>.skip (.br (fun h=>(by simp only[decide_eq_true_eq]at h;omega)) fun _=>.skip (.br (fun h=>(by simp only[decide_eq_true_eq]at h;omega)) fun _=>.skip (.op () rfl (.skip (.op () rfl (.skip (.br (fun h=>(by rw[hup]at h;simp at h)) fun _=>?_)))))))))
 refine .skip (.inl (.skip (.call _ hlo fun r11 h11=>.skip ?_)))
 subst h11;refine .loop (fun a:Int×List Route=>NumI o.fabric.BDs.length (fun i l=>SP ((idx i).flatMap (domF o)) l) a) (fun a=>o.fabric.BDs.length - a.1.toNat) (fun t:List Route=>SP (lisD o) t) rfl (NumI.start SP.start) (by simp;omega) (fun a hI=>?_) (fun(t117:List Route) ht117=>?_)
 ·refine .skip (.op () rfl (.skip (.br (fun hlt=>?_) fun hlt=>.skip (.done rfl (hI.fin (by simpa using hlt))))))
  obtain⟨i,h1,h2,h3,h4⟩:=hI.get (by simpa using hlt)
  have h4':=h4 (by omega)
  clear h4;have hdom:(idx (i+1)).flatMap (domF o)=(idx i).flatMap (domF o)++domF o a.1:=by rw[fm_succ,h1]
  have hpr:(idx i).flatMap (domF o)++domF o a.1<+:lisR o:=by
   rw[← hdom];unfold lisR lisD;rw[List.append_assoc];exact(fm_pre (idx_pre (by omega))).trans (List.prefix_append _ _)
  have hno:carO o a.1=false→NumI o.fabric.BDs.length (fun i l=>SP ((idx i).flatMap (domF o)) l) (inc a.1,a.2)∧o.fabric.BDs.length - (inc a.1).toNat<o.fabric.BDs.length - a.1.toNat:=fun hc=>h4' a.2 (by
   rw[hdom,show domF o a.1=[]by simp[domF,prefB,hc],List.append_nil];exact h3)
  refine .skip (.loop (fun b:Bool×Int=>IdxI o.fabric.Segments (fun pre r=>r=carP o.self pre a.1) (b.2,b.1)) (fun b=>o.fabric.Segments.length - b.2.toNat) (fun t:Bool=>t=carP o.self o.fabric.Segments a.1) rfl (IdxI.start rfl) (by simp;omega) (fun b hJ=>?_) (fun(t92:Bool) ht92=>?_))
  ·refine .skip (.op () rfl (.skip (.br (fun hlt=>?_) fun hlt=>.skip (.done rfl (hJ.fin hlt)))))
   obtain⟨x,pre,j1,j2,j3,-,j4⟩:=hJ.get hlt;have j3:b.1=carP o.self pre a.1:=j3;have hx:=hg.seg x j2;have hap:∀c,carP o.self (pre++[x]) c=(carP o.self pre c||(elI x.Leaves o.self&&elI x.BDs c)):=by simp[carP]
   refine .skip (.br (fun hb=>.skip (.done rfl (j4 (by omega) true (by rw[hap,← j3,hb];rfl)))) fun hb=>.skip (.op x j1 (.skip (.call _ (has_at n _ _ (by omega) (by omega)) fun r86 h86=>.skip (.br (fun hc=>.skip (.op x j1 (.skip (.call _ (has_at n _ _ (by omega) (by omega)) fun r88 h88=>.skip (.done rfl (j4 (by omega) r88 (by rw[hap,← j3,hb,h88,← h86,hc];simp))))))) fun hc=>.skip (.done rfl (j4 (by omega) false (by rw[hap,← j3,hb,← h86,hc];simp))))))))
  have hca:t92=carO o a.1:=ht92;refine .skip (.br (fun hb=>.skip (.done rfl (hno (by rw[← hca];exact nbT hb)))) fun hb=>?_)
  have hc:carO o a.1=true:=by rw[← hca];exact nbF hb
  obtain⟨b0,b1⟩:=car_bd hg hc;obtain⟨hb,hbm⟩:=hbdA b0 b1;have hd1:domF o a.1=floodR o a.1::(if prefB o a.1=true then[prefR o a.1]else[]):=by unfold domF;rw[if_pos hc];rfl
  have p1:(idx i).flatMap (domF o)++[floodR o a.1]<+:lisR o:=by rw[hd1]at hpr;exact pre_one hpr
  refine .skip (.op _ hb (.skip (.br (fun htr=>.skip (.call _ (rgroup_at n b0 (by omega)) fun r95 h95=>.skip (.call _ (hrd b0 b1) fun r96 h96=>.skip (.callS _ (rdom_at n hg _ _ _ b0 b1) fun r97 h97=>.skip (.inl (.callR (SP ((idx i).flatMap (domF o)++[floodR o a.1])) ?_ fun r98 h98=>?_)))))) fun htr=>.skip (.call _ (hrd b0 b1) fun r96 h96=>.skip (.callS _ (rdom_at n hg _ _ _ b0 b1) fun r97 h97=>.skip (.inl (.callR (SP ((idx i).flatMap (domF o)++[floodR o a.1])) ?_ fun r98 h98=>?_)))))))
  ·subst h95 h96 h97;refine(?_ :At ((gAdd 0 0 o.fabric o.self o.up (List.length a.2) a.2 _ _ _).run n) _);exact SP.add 0 0 n hn h h3 p1 (by simp only[floodR,htr,if_true];rfl) (ok_c (taC_ok _) ok_0) (by simp)
  rotate_left
  ·subst h96 h97;refine(?_ :At ((gAdd 0 0 o.fabric o.self o.up (List.length a.2) a.2 _ _ _).run n) _);exact SP.add 0 0 n hn h h3 p1 (by simp only[floodR,htr];rfl) (ok_c (taC_ok _) ok_0) (by simp)
  all_goals
   refine .skip (.br (fun hgw=>?_) fun hgw=>.skip (.done rfl (h4' _ ?_)))
   ·have hgw:(bdD o.fabric a.1).Gateway≠0:=by simpa using hgw
    have hpb:prefB o a.1=true:=by simp[prefB,hc,hgw]
    obtain⟨t0,-,t1⟩:=(hg.bd _ hbm).2.2 hgw;rw[if_pos hpb]at hd1;have p2:(idx i).flatMap (domF o)++[floodR o a.1]++[prefR o a.1]<+:lisR o:=by rw[hd1]at hpr;simpa using hpr
    refine .skip (.call _ (htrd t0 t1) fun r99 h99=>.skip (.op _ (htnA t0 t1) (.skip (.callS _ (rten_at n hg _ _ _ b0 b1 hgw) fun r101 h101=>.skip (.callS _ (hrou _) fun r102 h102=>.skip (.inl (.callR (SP ((idx i).flatMap (domF o)++[floodR o a.1]++[prefR o a.1])) ?_ fun r103 h103=>.skip (.done rfl (h4' _ ?_)))))))))
    ·subst h99 h101 h102;refine(?_ :At ((gAdd 1 0 o.fabric o.self o.up (List.length r98) r98 _ _ _).run n) _);exact SP.add 1 0 n hn h h98 p2 rfl (ok_c (taC_ok _) (ok_c (ok_6 _ _ (by omega)) ok_0)) (by simp)
    ·rw[hdom,hd1];simpa using h103
   ·have hgw:(bdD o.fabric a.1).Gateway=0:=by simpa using hgw
    have hpb:prefB o a.1=false:=by simp[prefB,hgw]
    rw[hdom,hd1,if_neg (by rw[hpb];simp)];exact h98
 repeat first |refine .skip ?_ |refine .inl ?_ |refine .tidy rfl ?_
 refine .call _ hlo fun r118 h118=>.skip ?_
 subst h118;refine .loop (fun a:Int×List Route=>NumI o.fabric.Segments.length (fun i l=>SP (lisD o++(idx i).flatMap (segF o)) l) a) (fun a=>o.fabric.Segments.length - a.1.toNat) (fun t:List Route=>SP (lisD o++lisS o) t) rfl (NumI.start (by simpa[idx]using ht117)) (by simp;omega) (fun a hI=>?_) (fun(t285:List Route) ht285=>?_)
 ·refine .skip (.op () rfl (.skip (.br (fun hlt=>?_) fun hlt=>.skip (.done rfl (hI.fin (by simpa using hlt))))))
  obtain⟨i,h1,h2,h3,h4⟩:=hI.get (by simpa using hlt)
  have h4':=h4 (by omega)
  clear h4;have s0:0≤a.1:=by omega
  have s1:a.1<(o.fabric.Segments.length:Int):=by omega
  obtain⟨hsg,hsm⟩:=hsgA s0 s1;have hx:=hg.seg _ hsm;obtain⟨u,hu1,-⟩:=at_in o.up a.1 s0 (by omega)
  have hshb:shB o a.1=(decide (1<(sgD o.fabric a.1).Leaves.length)&&(u&&elI (sgD o.fabric a.1).Leaves o.self)):=by
   unfold shB liveO;simp[s0,show a.1<(o.up.length:Int)by omega,hu1]
  have hdom:lisD o++(idx (i+1)).flatMap (segF o)=lisD o++(idx i).flatMap (segF o)++segF o a.1:=by rw[fm_succ,h1,List.append_assoc]
  have hpr:lisD o++(idx i).flatMap (segF o)++segF o a.1<+:lisR o:=by
   rw[← hdom];unfold lisR lisS;refine List.IsPrefix.trans ?_ (List.prefix_append _ _);exact(List.prefix_append_right_inj _).2 (fm_pre (idx_pre (by omega)))
  have hno:shB o a.1=false→NumI o.fabric.Segments.length (fun i l=>SP (lisD o++(idx i).flatMap (segF o)) l) (inc a.1,a.2)∧o.fabric.Segments.length - (inc a.1).toNat<o.fabric.Segments.length - a.1.toNat:=fun hc=>h4' a.2 (by
   rw[hdom,show segF o a.1=[]by simp[segF,hc],List.append_nil];exact h3)
  refine .skip (.op _ hsg (.skip (.op u hu1 (.skip (.br (fun hb=>.skip (.done rfl (hno (by rw[hshb,nbT hb];simp)))) fun hb=>.skip (.call _ (has_at n _ _ (by omega) (by omega)) fun r252 h252=>.skip (.br (fun hb2=>.skip (.done rfl (hno (by rw[hshb,← h252,nbT hb2];simp)))) fun hb2=>.skip (.op () rfl (.skip (.br (fun hb3=>.skip (.done rfl (hno (by simp only[decide_eq_true_eq]at hb3;rw[hshb,decide_eq_false (by omega)];rfl)))) fun hb3=>?_))))))))))
  simp only[decide_eq_false_iff_not]at hb3;have hm:1<(sgD o.fabric a.1).Leaves.length:=by omega
  have hsh:shB o a.1=true:=by rw[hshb,nbF hb,← h252,nbF hb2,decide_eq_true hm];rfl
  have hesi:At (c_ref22_ESI.S n (o.fabric,a.1)) (fun e:V10 Int=>e=esV a.1):=(resi2_at n (by omega) hv s0 s1).mono fun r hr=>by rw[hr,if_pos hm]
  have hd1:segF o a.1=segR o a.1::((sgD o.fabric a.1).BDs.map (partR o a.1)++[wholeR o a.1]):=by unfold segF;rw[if_pos hsh,if_pos hsh,if_pos hsh];rfl
  generalize hA:lisD o++(idx i).flatMap (segF o)=A at*;obtain⟨z,hz⟩:=hpr;have p1:A++[segR o a.1]<+:lisR o:=⟨(sgD o.fabric a.1).BDs.map (partR o a.1)++[wholeR o a.1]++z,by rw[← hz,hd1];simp⟩
  refine .skip (.call _ hesi fun r255 h255=>?_)
  subst h255;refine .skip (.call _ (rimp_at n a.1) fun r256 h256=>?_)
  subst h256;refine .call _ (rimport_at n) fun r257 h257=>?_
  subst h257;refine .skip (.call (fun r=>r=(madeS 6 6 (o.fabric.Elect*1099511627776+(32767 - o.self)),(0:Int))) (by rw[wrap_i64 (x:=32767 - o.self) (by omega) (by omega)];exact relection_at n hel.1 hel.2 (by omega) (by omega)) fun r258 h258=>?_)
  subst h258;refine .skip (.call _ hsrd fun r259 h259=>?_)
  subst h259;refine .skip (.inl (.callR (SP (A++[segR o a.1])) ?_ fun r260 h260=>?_))
  ·refine(?_ :At ((gAdd 1 0 o.fabric o.self o.up (List.length a.2) a.2 _ _ _).run n) _);exact SP.add 1 0 n hn h h3 p1 rfl (ok_c (ok_6 _ _ (by omega)) (ok_c (ok_6 _ _ (by omega)) ok_0)) (by simp)
  refine .skip (.call _ (rlab_at n (by omega) hv s0 s1 hm) fun r261 h261=>?_)
  subst h261;refine .call _ (rlabel_at n (m:=a.1+1) (by omega) (by omega)) fun r262 h262=>?_
  subst h262;refine .skip (.loop (fun b:Int×List Route×List (V8 Int)=>IdxI (sgD o.fabric a.1).BDs (fun pre s=>SP (A++[segR o a.1]++pre.map (partR o a.1)) s.1∧s.2=madeS 6 1 (a.1+1)::pre.map (fun b=>taC (bdD o.fabric b).Target)) b) (fun b=>(sgD o.fabric a.1).BDs.length - b.1.toNat) (fun t:List Route×List (V8 Int)=>SP (A++[segR o a.1]++(sgD o.fabric a.1).BDs.map (partR o a.1)) t.1∧t.2=madeS 6 1 (a.1+1)::(sgD o.fabric a.1).BDs.map (fun b=>taC (bdD o.fabric b).Target)) rfl (IdxI.start ⟨by simpa using h260,rfl⟩) (by simp;omega) (fun b hJ=>?_) (fun(t281:List Route×List (V8 Int)) ht281=>?_))
  ·refine .skip (.op () rfl (.skip (.br (fun hlt=>?_) fun hlt=>.skip (.done rfl (hJ.fin hlt)))))
   obtain⟨y,pre,j1,j2,⟨j3,j3c⟩,⟨-,post,jl⟩,j4⟩:=hJ.get hlt;have hy:=hx.2.2 y j2;have hpl:pre.length≤1000:=by have:=congrArg List.length jl;simp only[List.length_append]at this;omega
   obtain⟨hb,hbm⟩:=hbdA hy.1 hy.2;have hrm:roomy (b.2.2.length+1) 8=true:=by rw[j3c];simp[roomy];omega
   have p2:A++[segR o a.1]++pre.map (partR o a.1)++[partR o a.1 y]<+:lisR o:=⟨post.map (partR o a.1)++[wholeR o a.1]++z,by rw[← hz,hd1,jl];simp⟩
   refine .skip (.op y j1 (.skip (.callS _ (rdom_at n hg _ _ _ hy.1 hy.2) fun r274 h274=>.skip (.op () (ifU ⟨rfl,hrm⟩) (.skip (.call _ (hrd hy.1 hy.2) fun r275 h275=>.skip (.op _ hb (.skip (.callS _ (rdom_at n hg _ _ _ hy.1 hy.2) fun r277 h277=>.skip (.inl (.callR (SP (A++[segR o a.1]++pre.map (partR o a.1)++[partR o a.1 y])) ?_ fun r278 h278=>.skip (.done rfl (j4 (by omega) _ ⟨?_,?_⟩)))))))))))))
   ·subst h275 h277;refine(?_ :At ((gAdd 1 0 o.fabric o.self o.up (List.length b.2.1) b.2.1 _ _ _).run n) _);exact SP.add 1 0 n hn h j3 p2 rfl (ok_c (taC_ok _) ok_0) (by simp)
   ·simpa using h278
   ·rw[j3c,h274];simp
  obtain⟨j3,j3c⟩:=ht281;have p3:A++[segR o a.1]++(sgD o.fabric a.1).BDs.map (partR o a.1)++[wholeR o a.1]<+:lisR o:=⟨z,by rw[← hz,hd1];simp⟩
  refine .skip (.inl (.callR (SP (A++[segR o a.1]++(sgD o.fabric a.1).BDs.map (partR o a.1)++[wholeR o a.1])) ?_ fun r282 h282=>.skip (.done rfl (h4' _ ?_))))
  ·refine(?_ :At ((gAdd 1 0 o.fabric o.self o.up (List.length t281.1) t281.1 t281.2 _ _).run n) _);exact SP.add 1 0 n hn h j3 p3 (by rw[j3c];rfl) (by rw[j3c];exact ok_c (ok_6 _ _ (by omega)) fun c hc=>by obtain⟨b,-,rfl⟩:=List.mem_map.1 hc;exact taC_ok _) (by rw[j3c];simp;omega)
  ·rw[hdom,hd1];simpa using h282
 repeat first |refine .skip ?_ |refine .inl ?_ |refine .tidy rfl ?_
 refine .loop (fun a:Int×List Route=>IdxI o.near (fun pre s=>SP (lisD o++lisS o++(useF o pre).flatMap (addrR o)) s) a) (fun a=>o.near.length - a.1.toNat) (fun t:List Route=>SP (lisR o) t) rfl (IdxI.start (by simpa[useF]using ht285)) (by simp;omega) (fun a hI=>?_) (fun(t474:List Route) ht474=>?_)
 ·refine .skip (.op () rfl (.skip (.br (fun hlt=>?_) fun hlt=>.skip (.done rfl (hI.fin hlt)))))
  obtain⟨x,pre,h1,h2,h3,⟨h5,post,jl⟩,h4⟩:=hI.get hlt;have h4':=h4 (by omega)
  clear h4;have hpl:pre.length≤1000:=by have:=congrArg List.length jl;simp only[List.length_append]at this;omega
  have hno:=fun(hb:¬(okO o x=true∧¬plN x∈(useF o pre).map plN))=>h4' a.2 (by rw[useF_snoc,if_neg hb];exact h3)
  refine .skip (.op x h1 (.skip ?_));refine .loop (fun b:Bool×Int=>IdxI pre (fun p r=>r=p.any fun m=>(m.BD==x.BD&&m.MAC==x.MAC)&&okO o m) (b.2,b.1)) (fun b=>pre.length - b.2.toNat) (fun t:Bool=>t=pre.any fun m=>(m.BD==x.BD&&m.MAC==x.MAC)&&okO o m) rfl (IdxI.start rfl) (by simp;omega) (fun b hJ=>?_) (fun(t439:Bool) ht439=>?_)
  ·refine .skip (.br (fun hlt=>?_) fun hlt=>.skip (.done rfl (hJ.fin (by rw[← h5];exact hlt))))
   obtain⟨y,p2,j1,j2,j3,-,j4⟩:=hJ.get (by rw[← h5];exact hlt)
   have j3:b.1=p2.any fun m=>(m.BD==x.BD&&m.MAC==x.MAC)&&okO o m:=j3
   have j1':at? o.near b.2=some y:=by rw[jl];exact at_app j1
   have hap:(p2++[y]).any (fun m=>(m.BD==x.BD&&m.MAC==x.MAC)&&okO o m)=(b.1||((y.BD==x.BD&&y.MAC==x.MAC)&&okO o y)):=by rw[j3];simp
   refine .skip (.br (fun hb=>.skip (.done rfl (j4 (by omega) true (by rw[hap,hb];rfl)))) fun hb=>.skip (.op y j1' (.skip (.br (fun hc=>.skip (.op y j1' (.skip (.br (fun hd=>.skip (.op y j1' (.skip (.callS _ (usable_at n (by omega) hg hup _ y) fun r434 h434=>.skip (.done rfl (j4 (by omega) r434 (by rw[hap,hb,h434,hc,hd];simp))))))) fun hd=>.skip (.done rfl (j4 (by omega) false (by rw[hap,hb,hd];simp))))))) fun hc=>.skip (.done rfl (j4 (by omega) false (by rw[hap,hb,hc];simp)))))))
  have hag:t439=true↔plN x∈(useF o pre).map plN:=by
   rw[ht439,useF_iff,List.any_eq_true];simp only[Bool.and_eq_true,beq_iff_eq,plN,origin_place.mk.injEq];exact⟨fun⟨m,a,⟨b,c⟩,d⟩=>⟨m,a,d,b,c⟩,fun⟨m,a,d,b,c⟩=>⟨m,a,⟨b,c⟩,d⟩⟩
  refine .skip (.br (fun hb=>.skip (.done rfl (hno fun hc=>hc.2 (hag.1 hb)))) fun hb=>.skip (.callS _ (usable_at n (by omega) hg hup _ x) fun r441 h441=>.skip (.br (fun hc=>.skip (.done rfl (hno fun hd=>by rw[← h441,nbT hc]at hd;cases hd.1))) fun hc=>?_)))
  have hok:okO o x=true:=by rw[← h441];exact nbF hc
  have hfr:¬plN x∈(useF o pre).map plN:=fun hm=>by rw[hag.2 hm]at hb;cases hb
  have hus:useF o (pre++[x])=useF o pre++[x]:=by rw[useF_snoc,if_pos ⟨hok,hfr⟩]
  have hdom:lisD o++lisS o++(useF o (pre++[x])).flatMap (addrR o)=lisD o++lisS o++(useF o pre).flatMap (addrR o)++addrR o x:=by rw[hus,List.flatMap_append];simp
  have hpr:lisD o++lisS o++(useF o pre).flatMap (addrR o)++addrR o x<+:lisR o:=by
   rw[← hdom];unfold lisR lisE;refine(List.prefix_append_right_inj _).2 (fm_pre ?_);have:=useF_pre o post (pre++[x]);rwa[List.append_assoc,List.singleton_append,← jl]at this
  generalize hA:lisD o++lisS o++(useF o pre).flatMap (addrR o)=A at*;have hw0:IntKind.wrap .i64 ((((List.length o.claims):Nat):Int) - (1:Int))=(o.claims.length:Int) - 1:=wrap_i64 (by omega) (by omega)
  refine .skip (.op () rfl (.skip ?_));refine .loop (fun b:Int×Int=>∃k:Nat,b.2=(k:Int) - 1∧k≤o.claims.length∧b.1=(seqL (o.claims.drop k) (plN x)).getD 0) (fun b=>(b.2+1).toNat) (fun t:Int=>t=seqO o x) rfl ⟨o.claims.length,hw0,Nat.le_refl _,by rw[List.drop_length];rfl⟩ (by show((IntKind.wrap .i64 ((((List.length o.claims):Nat):Int) - (1:Int)))+1).toNat<n;rw[hw0];omega) (fun b hK=>?_) (fun(t451:Int) ht451=>?_)
  ·obtain⟨k,k1,k2,k3⟩:=hK;refine .skip (.br (fun hge=>?_) fun hge=>.skip (.done rfl (?_ :b.1=seqO o x)))
   ·simp only[decide_eq_true_eq]at hge;obtain⟨c,hc,hcm⟩:=at_in o.claims b.2 (by omega) (by omega)
    have hw:IntKind.wrap .i64 (b.2 - (1:Int))=((k - 1:Nat):Int) - 1:=by rw[wrap_i64 (by omega) (by omega)];omega
    have hk:k - 1<o.claims.length:=by omega
    have hc2:o.claims[k - 1]=c:=by
     have:o.claims[k - 1]? =some c:=by
      have:=hc;unfold at? at this;rw[if_pos (by omega)]at this
      rwa[show b.2.toNat=k - 1 by omega]at this
     exact(List.getElem?_eq_some_iff.1 this).2
    have hnx:∀q:Int,q=(if plN x=⟨c.BD,c.MAC⟩then c.Seq else b.1)→RoundAt (fun b:Int×Int=>∃k:Nat,b.2=(k:Int) - 1∧k≤o.claims.length∧b.1=(seqL (o.claims.drop k) (plN x)).getD 0) (fun b=>(b.2+1).toNat) (fun t:Int=>t=seqO o x) b (.inl (q,IntKind.wrap .i64 (b.2 - (1:Int)))):=fun q hq=>by
     refine⟨⟨k - 1,hw,by omega,?_⟩,?_⟩
     ·show q=_;rw[hq,List.drop_eq_getElem_cons hk,hc2,seqL_cons,show k - 1+1=k by omega]
      split
      ·rfl
      ·exact k3
     ·show(IntKind.wrap .i64 (b.2 - (1:Int))+1).toNat<(b.2+1).toNat;rw[hw];omega
    refine .skip (.op c hc (.skip (.br (fun e1=>.skip (.op c hc (.skip (.br (fun e2=>.skip (.op c hc (.skip (.done rfl (hnx _ ?_))))) fun e2=>.skip (.done rfl (hnx _ ?_)))))) fun e1=>.skip (.done rfl (hnx _ ?_)))))
    ·rw[if_pos];simp only[plN,origin_place.mk.injEq];exact⟨(eq_of_beq e1).symm,(eq_of_beq e2).symm⟩
    ·rw[if_neg];simp only[plN,origin_place.mk.injEq];rintro⟨-,q⟩;rw[q]at e2;simp at e2
    ·rw[if_neg];simp only[plN,origin_place.mk.injEq];rintro⟨q,-⟩;rw[q]at e1;simp at e1
   ·simp only[decide_eq_false_iff_not]at hge;rw[k3,show k=0 by omega,List.drop_zero];rfl
  subst ht451;have hqr:=seqO_rng h.sq x;have hlv:liveO o x.Segment=true:=by
   unfold okO at hok;simp only[Bool.and_eq_true]at hok;exact hok.1
  have hel2:elI (sgD o.fabric x.Segment).BDs x.BD=true:=by
   unfold okO at hok;simp only[Bool.and_eq_true]at hok;exact hok.2.1
  unfold liveO at hlv;simp only[Bool.and_eq_true,decide_eq_true_eq]at hlv;have s0:0≤x.Segment:=hlv.1;have s1:x.Segment<(o.fabric.Segments.length:Int):=by have:=hlv.2.1;omega
  obtain⟨b0,b1⟩:=(hg.seg _ (hsgA s0 s1).2).2.2 x.BD (elI_iff.1 hel2);obtain⟨hbd,hbm⟩:=hbdA b0 b1;have hesi:At (c_ref22_ESI.S n (o.fabric,x.Segment)) (fun e:V10 Int=>e=esO o x.Segment):=(resi2_at n (by omega) hv s0 s1).mono fun r hr=>by
   rw[hr];unfold esO;by_cases hm:1<(sgD o.fabric x.Segment).Leaves.length
   ·rw[if_pos hm,if_neg (by omega)]
   ·rw[if_neg hm,if_pos (by omega)]
  have p1:A++[macR o x]<+:lisR o:=by
   by_cases hc:x.HasIP=true∧(bdD o.fabric x.BD).Gateway≠0
   ·rw[addr2 hc]at hpr;exact pre_one hpr
   ·rw[addr1 hc]at hpr;exact hpr
  have fin1:¬(x.HasIP=true∧(bdD o.fabric x.BD).Gateway≠0)→∀r,SP (A++[macR o x]) r→SP (lisD o++lisS o++(useF o (pre++[x])).flatMap (addrR o)) r:=fun hc r hr=>by
   rw[hdom,addr1 hc];exact hr
  have fin2:(x.HasIP=true∧(bdD o.fabric x.BD).Gateway≠0)→∀r,SP (A++[macR o x]++[macI o x]) r→SP (lisD o++lisS o++(useF o (pre++[x])).flatMap (addrR o)) r:=fun hc r hr=>by
   rw[hdom,addr2 hc];simpa using hr
  have p2:(x.HasIP=true∧(bdD o.fabric x.BD).Gateway≠0)→A++[macR o x]++[macI o x]<+:lisR o:=fun hc=>by
   rw[addr2 hc]at hpr;simpa using hpr
  refine .skip (.op _ hbd (.skip (.call _ (hrd b0 b1) fun r453 h453=>.skip (.call _ hesi fun r454 h454=>.skip (.callS _ (rdom_at n hg _ _ _ b0 b1) fun r455 h455=>.skip (.br (fun hq=>?_) fun hq=>?_))))))
  ·simp only[decide_eq_true_eq]at hq;have hq0:¬seqO o x=0:=by omega
   have hmc:=mac1 hq0;refine .skip (.call _ (rmobility_at n hqr.1 hqr.2) fun r456 h456=>.skip (.inl (.callR (SP (A++[macR o x])) ?_ fun r457 h457=>?_)))
   ·subst h453 h454 h455 h456;refine(?_ :At ((gAdd 2 1 o.fabric o.self o.up (List.length a.2) a.2 _ _ _).run n) _);exact SP.add 2 1 n hn h h3 p1 (by unfold macR;rw[hmc];rfl) (ok_c (taC_ok _) (ok_c (ok_6 _ _ (by omega)) ok_0)) (by simp)
   refine .skip (.br (fun hip=>.skip (.br (fun hgw=>?_) fun hgw=>.skip (.done rfl (h4' _ (fin1 (fun hc=>by simp at hgw;exact hc.2 hgw) _ h457))))) fun hip=>.skip (.done rfl (h4' _ (fin1 (fun hc=>by rw[hip]at hc;cases hc.1) _ h457))))
   have hgw:(bdD o.fabric x.BD).Gateway≠0:=by simpa using hgw
   obtain⟨t0,-,t1⟩:=(hg.bd _ hbm).2.2 hgw;refine .skip (.op _ (htnA t0 t1) (.skip (.callS _ (rten_at n hg _ _ _ b0 b1 hgw) fun r459 h459=>.skip (.callS _ (hrou _) fun r460 h460=>.skip (.inl (.callR (SP (A++[macR o x]++[macI o x])) ?_ fun r461 h461=>.skip (.done rfl (h4' _ (fin2 ⟨hip,hgw⟩ _ h461)))))))))
   subst h453 h454 h455 h456 h459 h460;refine(?_ :At ((gAdd 3 2 o.fabric o.self o.up (List.length r457) r457 _ _ _).run n) _);exact SP.add 3 2 n hn h h457 (p2 ⟨hip,hgw⟩) (by unfold macI tnB;rw[hmc];rfl) (ok_c (taC_ok _) (ok_c (ok_6 _ _ (by omega)) (ok_c (taC_ok _) (ok_c (ok_6 _ _ (by omega)) ok_0)))) (by simp)
  ·simp only[decide_eq_false_iff_not]at hq;have hq0:seqO o x=0:=by omega
   have hmc:=mac0 hq0;refine .skip (.inl (.callR (SP (A++[macR o x])) ?_ fun r457 h457=>?_))
   ·subst h453 h454 h455;refine(?_ :At ((gAdd 2 1 o.fabric o.self o.up (List.length a.2) a.2 _ _ _).run n) _);exact SP.add 2 1 n hn h h3 p1 (by unfold macR;rw[hmc];rfl) (ok_c (taC_ok _) ok_0) (by simp)
   refine .skip (.br (fun hip=>.skip (.br (fun hgw=>?_) fun hgw=>.skip (.done rfl (h4' _ (fin1 (fun hc=>by simp at hgw;exact hc.2 hgw) _ h457))))) fun hip=>.skip (.done rfl (h4' _ (fin1 (fun hc=>by rw[hip]at hc;cases hc.1) _ h457))))
   have hgw:(bdD o.fabric x.BD).Gateway≠0:=by simpa using hgw
   obtain⟨t0,-,t1⟩:=(hg.bd _ hbm).2.2 hgw;refine .skip (.op _ (htnA t0 t1) (.skip (.callS _ (rten_at n hg _ _ _ b0 b1 hgw) fun r459 h459=>.skip (.callS _ (hrou _) fun r460 h460=>.skip (.inl (.callR (SP (A++[macR o x]++[macI o x])) ?_ fun r461 h461=>.skip (.done rfl (h4' _ (fin2 ⟨hip,hgw⟩ _ h461)))))))))
   subst h453 h454 h455 h459 h460;refine(?_ :At ((gAdd 3 1 o.fabric o.self o.up (List.length r457) r457 _ _ _).run n) _);exact SP.add 3 1 n hn h h457 (p2 ⟨hip,hgw⟩) (by unfold macI tnB;rw[hmc];rfl) (ok_c (taC_ok _) (ok_c (taC_ok _) (ok_c (ok_6 _ _ (by omega)) ok_0))) (by simp)
 repeat first |refine .skip ?_ |refine .inl ?_ |refine .tidy rfl ?_
 refine .done ?_ ht474;simp[tsOk,fzRow]
end
end Go.L
end
section
namespace Go.L
open Go.AM Go.Sort
theorem copy_at(n:Nat)(hn:5000≤n){f:Fabric}(hv:Vf f):At (c_ref22_Copy.S n f) (fun r:Fabric=>r=f):=by
 have hs:=vf_small hv;have hsg:=hs.segments;refine(?_ :AtG n (g_ref22_Copy f) _);unfold g_ref22_Copy;refine .skip (.op () (ifU ⟨rfl,by have:=hs.links;simp[roomy];omega⟩) (.skip (.op () (ifU ⟨rfl,by have:=hs.tenants;simp[roomy];omega⟩) (.skip (.op () (ifU ⟨rfl,by have:=hs.bds;simp[roomy];omega⟩) (.skip (.op () (ifU ⟨rfl,by have:=hs.hosts;simp[roomy];omega⟩) (.skip (.op () (ifU ⟨rfl,by have:=hs.leaks;simp[roomy];omega⟩) (.skip (.op () (ifU ⟨rfl,by simp[roomy];omega⟩) (.skip ?_))))))))))))
 refine .loop (fun a:Int×List Segment=>(∃i:Nat,a.1=(i:Int)∧i≤f.Segments.length)∧a.2=f.Segments) (fun a=>f.Segments.length - a.1.toNat) (fun t:List Segment=>t=f.Segments) rfl ⟨⟨0,rfl,Nat.zero_le _⟩,rfl⟩ (by simp;omega) (fun a ha=>?_) (fun(t23:List Segment) ht=>?_)
 ·obtain⟨⟨i,h1,h2⟩,h3⟩:=ha;refine .skip (.br (fun hlt=>?_) fun hlt=>.skip (.done rfl h3))
  simp only[decide_eq_true_eq,List.nil_append]at hlt;have hi:i<f.Segments.length:=by omega
  have e1:a.1.toNat=i:=by omega
  have hg:a.2[a.1.toNat]? =some f.Segments[i]:=by rw[h3,e1];exact List.getElem?_eq_getElem hi
  have hm:=hs.seg _ (List.getElem_mem hi);have hi':0≤a.1∧a.1<((([]++f.Segments).length:Nat):Int):=by rw[List.nil_append];omega
  have hset:List.set a.2 a.1.toNat (Segment.mk ([]++(f.Segments[i]).Leaves) (f.Segments[i]).BDs)=a.2:=by rw[h3,e1];exact List.set_getElem_self hi
  have hset2:List.set a.2 a.1.toNat (Segment.mk (f.Segments[i]).Leaves ([]++(f.Segments[i]).BDs))=a.2:=by rw[h3,e1];exact List.set_getElem_self hi
  refine .skip (.op () (ifU hi') (.skip (.op f.Segments[i] hg (.op () (ifU ⟨rfl,by simp[roomy];omega⟩) (.op () (ifU hi') (.skip (.tidy (by simp[tsOk,fzRow]) (.op f.Segments[i] hg (.skip (.op () (ifU hi') (.skip (.op f.Segments[i] (by rw[hset];exact hg) ?_))))))))))))
  refine .op () (ifU ⟨rfl,by simp[roomy];omega⟩) (.op () (ifU hi') (.skip (.tidy (by simp[tsOk,fzRow]) (.op f.Segments[i] (by rw[hset];exact hg) (.skip (.done rfl ⟨⟨⟨i+1,W_eq (by omega) (by omega),by omega⟩,?_⟩,?_⟩))))))
  ·grind
  ·show f.Segments.length - (IntKind.wrap .i64 (a.1+1)).toNat<f.Segments.length - a.1.toNat;rw[W_eq (x:=a.1+1) (n:=i+1) (by omega) (by omega)];simp only[Int.toNat_natCast];omega
 ·refine .skip (.done (by simp[tsOk,fzRow,ht]) ?_)
  rw[ht];rfl
theorem ownB_at(n:Nat)(l:List Bool)(hl:l.length≤1000):At (c_kit_Own_bool.S n l) (fun r:List Bool=>r=l):=by
 refine(?_ :AtG n (g_kit_Own_bool l) _);exact .skip (.op () (ifU ⟨rfl,by simp[roomy];omega⟩) (.skip (.done (by simp[tsOk,fzRow]) rfl)))
theorem ownN_at(n:Nat)(l:List Near)(hl:l.length≤1000):At (c_kit_Own_Near.S n l) (fun r:List Near=>r=l):=by
 refine(?_ :AtG n (g_kit_Own_Near l) _);exact .skip (.op () (ifU ⟨rfl,by simp[roomy];omega⟩) (.skip (.done (by simp[tsOk,fzRow]) rfl)))
theorem ownC_at(n:Nat)(l:List Claim)(hl:l.length≤1000):At (c_kit_Own_Claim.S n l) (fun r:List Claim=>r=l):=by
 refine(?_ :AtG n (g_kit_Own_Claim l) _);exact .skip (.op () (ifU ⟨rfl,by simp[roomy];omega⟩) (.skip (.done (by simp[tsOk,fzRow]) rfl)))
theorem sameRs_at(n:Nat)(hn:100000≤n)(l:List Route)(hl:l.length≤70000)(hc:∀x∈l,x.A.Comms.length≤1000∧x.A.Path.length≤1000∧x.A.Clusters.length≤1000):At (c_kit_SameRoutes.S n (l,l)) (fun r:Bool=>r=true):=by
 refine(?_ :AtG n (g_kit_SameRoutes l l) _);unfold g_kit_SameRoutes;refine .skip (.op () rfl (.skip (.op () rfl (.skip (.br (fun h=>(by simp at h)) fun _=>.skip ?_)))))
 refine .loop (fun a:Int=>IdxI l (fun pre (_:Unit)=>True) (a,())) (fun a=>l.length - a.toNat) (Sum.elim (fun _:Unit=>False) fun _=>True) rfl (IdxI.start trivial) (by simp;omega) (fun a ha=>?_) (fun t ht=>?_)
 ·refine .skip (.op () rfl (.skip (.br (fun h=>?_) fun h=>.skip (.done rfl (ha.fin h)))))
  obtain⟨x,pre,h1,h2,h3,-,h4⟩:=ha.get h;obtain⟨c1,c2,c3⟩:=hc x h2;refine .skip (.op x h1 (.skip (.op x h1 (.skip (.call _ (sameR_at n hn c1 c2 c3 fun _=>rfl) fun r hr=>.skip (.br (fun hb=>(by rw[hr.2 rfl]at hb;cases hb)) fun _=>.skip (.done rfl (h4 (by omega) () trivial))))))))
 ·cases t with
  |inl t=>exact ht.elim
  |inr t=>exact .skip (.done rfl rfl)
def grV(x:Int):Int:=if x<0 then 0 else if 32≤x then 0 else 4009754625+x
theorem group_at(n:Nat)(x:Int):At (c_origin_Group.S n x) (fun r:Int=>r=grV x):=by
 refine(?_ :AtG n (g_origin_Group x) _);unfold grV;refine .skip (.br (fun h=>.skip (.done rfl ?_)) fun h=>.skip (.br (fun h2=>.skip (.done rfl ?_)) fun h2=>.skip (.done rfl ?_)))
 all_goals simp only[decide_eq_true_eq,decide_eq_false_iff_not]at*
 ·rw[if_pos h]
 ·rw[if_neg h,if_pos h2]
 ·rw[if_neg h,if_neg h2,w32 (x:=x) (by omega) (by omega),w32 (by omega) (by omega)]
theorem group2_at(n:Nat)(x:Int):At (c_ref32_Group.S n x) (fun r:Int=>r=grV x):=by
 refine(?_ :AtG n (g_ref32_Group x) _);unfold grV;refine .skip (.br (fun h=>.skip (.done rfl ?_)) fun h=>.skip (.br (fun h2=>.skip (.done rfl ?_)) fun h2=>.skip (.done rfl ?_)))
 all_goals simp only[decide_eq_true_eq,decide_eq_false_iff_not]at*
 ·rw[if_pos h]
 ·rw[if_neg h,if_pos h2]
 ·rw[if_neg h,if_neg h2,wrap_i64 (by omega) (by omega),w32 (by omega) (by omega)]
theorem proRoutes_out(n:Nat){f:Fabric}{self:Int}{up:List Bool}{near:List Near}{claims:List Claim}(hc:At (c_tenant_Check.S n f) (fun r:Int×ByteArray×Int=>r.1=0))(h:self<0∨f.Leaves≤self∨up.length≠f.Segments.length):At (c_origin_Routes.S n (f,self,up,near,claims)) (fun r:List Route=>r=[]):=by
 refine(?_ :AtG n (g_origin_Routes f self up near claims) _);refine .skip (.call _ hc fun r6 h6=>.skip (.br (fun h=>(by rw[h6]at h;cases h)) fun _=>.skip (.br (fun _=>.skip (.done rfl rfl)) fun h0=>.skip (.br (fun _=>.skip (.done rfl rfl)) fun h1=>.skip (.op () rfl (.skip (.op () rfl (.skip (.br (fun _=>.skip (.done rfl rfl)) fun h2=>?_)))))))))
 simp at h0 h1 h2;omega
theorem routesLaw_at(n:Nat)(hn:100000≤n)(nums:List Int)(self:Int)(up:List Bool)(near:List Near)(claims:List Claim)(bd:Int)(hnr:∀x∈near,inW x.IP)(hseq:∀c∈claims,0≤c.Seq∧c.Seq<4294967296):
 At (c_law32_OriginRoutes.S n (nums,self,up,near,claims,bd)) (fun r:Bool=>r=true):=by
 refine(?_ :AtG n (g_law32_OriginRoutes nums self up near claims bd) _);unfold g_law32_OriginRoutes;refine .skip (.call _ (lives_at n (by omega)) fun r7 h7=>.skip (.br (fun h=>(by rw[h7]at h;cases h)) fun _=>?_))
 refine .skip (.call _ (light_at n nums up near claims) fun r9 h9=>.skip (.br (fun h=>.skip (.done rfl rfl)) fun h=>?_))
 obtain⟨hne,hcl,hupl⟩:=h9 (nbF h);refine .skip (.call _ (fab_at n (by omega) nums) fun(f:Fabric) hv=>?_)
 refine .skip (.call _ (copy_at n (by omega) hv) fun r12 h12=>?_)
 refine .skip (.call _ (ownB_at n up (by omega)) fun r13 h13=>?_)
 refine .skip (.call _ (ownN_at n near (by omega)) fun r14 h14=>?_)
 refine .skip (.call _ (ownC_at n claims (by omega)) fun r15 h15=>?_)
 rw[h12,h13,h14,h15];obtain⟨l,a1,a2,a3,a4⟩:∃l:List Route,c_origin_Routes.S n (f,self,up,near,claims)=some l∧c_ref32_Routes.S n (f,self,up,near,claims)=some l∧(∀x∈l,x.A.Comms.length≤1000∧x.A.Path.length≤1000∧x.A.Clusters.length≤1000)∧l.length≤70000:=by
  by_cases hgd:0≤self∧self<f.Leaves∧up.length=f.Segments.length
  ·obtain⟨s0,s1,hu⟩:=hgd;obtain⟨r,e1,e2,e3⟩:=routes_x n (by omega) hv (self:=self) (up:=up) (near:=near) (claims:=claims) ⟨s0,s1⟩ hu (by omega) (by omega) hseq
   have hR:RefH (mkA f self up near claims):=⟨hv,rfl,rfl,s0,s1,hu,by show near.length≤1000;omega,by show claims.length≤1000;omega,hseq,hnr⟩
   obtain⟨q,e4,e5⟩:=refRoutes_at hR n hn;have hrq:r=q:=SP.one ⟨e3,e2⟩ e5 (lisR_perm (gd_of hv)).symm;subst hrq;refine⟨r,e1,e4,fun x hx=>?_,?_⟩
   ·obtain⟨cl,ct,hatt,hci,hct⟩:=(orig_of hv ⟨s0,s1⟩ up hnr claims x (e2.subset hx)).att;have h1:=sortU_len cl;have h2:=hci.len;rw[hatt];exact⟨by show(sortU cl).length≤1000;omega,Nat.zero_le _,Nat.zero_le _⟩
   ·rw[e2.length_eq];have:=allO_len (mkA f self up near claims) (gd_of hv) (by show near.length≤1000;omega)
    omega
  ·have ho:self<0∨f.Leaves≤self∨up.length≠f.Segments.length:=by omega
   obtain⟨r,e1,e2⟩:=proRoutes_out n (near:=near) (claims:=claims) (check_v n (by omega) f hv) ho
   obtain⟨q,e3,e4⟩:=refRoutes_out n (by omega) hv (near:=near) (claims:=claims) ho
   rw[e2]at e1;rw[e4]at e3;exact⟨[],e1,e3,by simp,by simp⟩
 refine .call (fun r=>r=l) ⟨_,a1,rfl⟩ fun r16 h16=>.skip (.call (fun r=>r=l) ⟨_,a2,rfl⟩ fun r17 h17=>?_)
 rw[h16,h17];refine .call _ (sameRs_at n hn l a4 a3) fun r18 h18=>.skip (.br (fun _=>.skip (.call _ (group_at n bd) fun r19 h19=>.skip (.call _ (group2_at n bd) fun r20 h20=>.skip (.done rfl (by rw[h19,h20];simp))))) fun h=>(by rw[h18]at h;cases h))
end Go.L
end
