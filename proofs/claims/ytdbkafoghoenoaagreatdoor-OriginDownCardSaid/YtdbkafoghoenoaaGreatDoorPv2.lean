/- Parts put together. No conditions. -/
import Derived.Test.YtdbkafoghoenoaaGreatDoorPo
import Derived.Test.YtdbkafoghoenoaaGreatDoorWv
set_option linter.unusedSectionVars false
set_option linter.unusedSimpArgs false
set_option linter.unusedVariables false
set_option maxRecDepth 100000
section
namespace Go.L
open Go.AM Go.Sort
theorem light_at(n:Nat)(l:List Int)(u:List Bool)(ns:List Near)(cs:List Claim):At (c_law32_light.S n (l,u,ns,cs)) (fun r:Bool=>r=true→ns.length≤30∧cs.length≤30∧u.length≤30):=by
 refine(?_ :AtG n (g_law32_light l u ns cs) _);unfold g_law32_light;refine .skip (.op () rfl (.skip (.br (fun h1=>.skip (.op () rfl (.skip (.br (fun h2=>.skip (.op () rfl (.skip (.br (fun h3=>.skip (.op () rfl (.skip (.done rfl fun h4=>?_)))) fun _=>.skip (.done rfl fun h=>(by cases h)))))) fun _=>.skip (.done rfl fun h=>(by cases h)))))) fun _=>.skip (.done rfl fun h=>(by cases h)))))
 simp only[decide_eq_true_eq]at h2 h3 h4;omega
def portV(f:Fabric)(up:List Bool):List Bool:=up.take f.Segments.length++(List.replicate f.Segments.length false).drop up.length
theorem portV_len(f:Fabric)(up:List Bool):(portV f up).length=f.Segments.length:=by
 unfold portV;rw[List.length_append,List.length_take,List.length_drop,List.length_replicate];omega
theorem ports_at(n:Nat)(f:Fabric)(up:List Bool)(hs:f.Segments.length≤1000):At (c_law32_ports.S n (f,up)) (fun r:List Bool=>r=portV f up):=by
 have e:Int.toNat ((f.Segments.length:Nat):Int)=f.Segments.length:=by omega
 refine(?_ :AtG n (g_law32_ports f up) _);unfold g_law32_ports;refine .skip (.op () rfl (.op () (ifU ⟨by omega,by rw[e];simp[roomy];omega⟩) (.skip (.op () (ifU rfl) (.skip (.done ?_ ?_))))))
 ·simp only[tsOk,fzRow,e,List.length_append,List.length_take,List.length_drop,List.length_replicate,List.length_map];simp;omega
 ·rw[e,List.length_replicate];rfl
theorem fab_at(n:Nat)(hn:5000≤n)(l:List Int):At (c_kit_Fabric.S n l) Vf:=fabric_valid l hn
theorem rlp_at(n:Nat)(x:Int)(h0:0≤x)(h1:x<32):At (c_ref01_Loopback.S n x) (fun(r:Int×Int)=>r=(lpV x,0)):=by
 refine(?_ :AtG n (g_ref01_Loopback x) _);refine .skip (.br (fun h=>(by simp only[decide_eq_true_eq]at h;omega)) fun _=>.skip (.br (fun h=>(by simp only[decide_eq_true_eq]at h;omega)) fun _=>.skip (.done rfl ?_)))
 show(IntKind.wrap .u32 ((IntKind.wrap .u32 ((184483840:Int)+(IntKind.wrap .u32 x)))+(1:Int)),(0:Int))=(lpV x,0);rw[w32 h0 (by omega),w32 (x:=184483840+x) (by omega) (by omega),w32 (x:=184483840+x+1) (by omega) (by omega)];unfold lpV
 rw[show(184483840+x+1:Int)=184483841+x by omega]
theorem allO_len(o:origin_origin)(hg:Gd o.fabric)(hne:o.near.length≤1000):(allO o).length≤62184:=by
 have a1:=fil_len (carO o) (floodR o) 32;have a2:=fil_len (shB o) (segR o) o.fabric.Segments.length;have a3:=fil_len (shB o) (wholeR o) o.fabric.Segments.length;have a4:=fla_len (shB o) (fun s=>(sgD o.fabric s).BDs.map (partR o s)) 1000 o.fabric.Segments.length fun j hj=>by
  rw[List.length_map];exact(hg.seg _ (at_inD (α:=Segment) ⟨[],[]⟩ (i:=(j:Int)) (by omega) (by omega)).2).2.1
 have a5:=flat2_len o (useF o o.near);have a6:=useF_len o o.near;have a7:=fil_len (prefB o) (prefR o) 32;have:=hg.segs;unfold allO carL shL;simp only[List.length_append];omega
end Go.L
end
section
namespace Go.L
open Go.AM Go.Sort
theorem sameU_at(n:Nat)(l:List Int)(hn:l.length<n)(hl:l.length<100000):At (c_kit_Same_uint32.S n (l,l)) (fun r:Bool=>r=true):=by
 refine(?_ :AtG n (g_kit_Same_uint32 l l) _);unfold g_kit_Same_uint32;refine .skip (.op () rfl (.skip (.op () rfl (.skip (.br (fun h=>(by simp at h)) fun _=>.skip ?_)))))
 refine .loop (fun a:Int=>IdxI l (fun pre (_:Unit)=>True) (a,())) (fun a=>l.length - a.toNat) (Sum.elim (fun _:Unit=>False) fun _=>True) rfl (IdxI.start trivial) (by simp;omega) (fun a ha=>?_) (fun t ht=>?_)
 ·refine .skip (.op () rfl (.skip (.br (fun h=>?_) fun h=>.skip (.done rfl (ha.fin h)))))
  obtain⟨x,pre,h1,h2,h3,-,h4⟩:=ha.get h;refine .skip (.op x h1 (.skip (.op x h1 (.skip (.br (fun h=>(by simp at h)) fun _=>.skip (.done rfl (h4 hl () trivial)))))))
 ·cases t with
  |inl t=>exact ht.elim
  |inr t=>exact .skip (.done rfl rfl)
theorem sameP_at(n:Nat)(l:List Int)(hn:l.length<n)(hl:l.length<100000):At (c_kit_Same_IP.S n (l,l)) (fun r:Bool=>r=true):=by
 refine(?_ :AtG n (g_kit_Same_IP l l) _);unfold g_kit_Same_IP;refine .skip (.op () rfl (.skip (.op () rfl (.skip (.br (fun h=>(by simp at h)) fun _=>.skip ?_)))))
 refine .loop (fun a:Int=>IdxI l (fun pre (_:Unit)=>True) (a,())) (fun a=>l.length - a.toNat) (Sum.elim (fun _:Unit=>False) fun _=>True) rfl (IdxI.start trivial) (by simp;omega) (fun a ha=>?_) (fun t ht=>?_)
 ·refine .skip (.op () rfl (.skip (.br (fun h=>?_) fun h=>.skip (.done rfl (ha.fin h)))))
  obtain⟨x,pre,h1,h2,h3,-,h4⟩:=ha.get h;refine .skip (.op x h1 (.skip (.op x h1 (.skip (.br (fun h=>(by simp at h)) fun _=>.skip (.done rfl (h4 hl () trivial)))))))
 ·cases t with
  |inl t=>exact ht.elim
  |inr t=>exact .skip (.done rfl rfl)
def eqN(x y:NLRI):Bool:=((x.Kind==y.Kind)&&((x.RD==y.RD)&&((x.ESI.a0==y.ESI.a0)&&((x.ESI.a1==y.ESI.a1)&&((x.ESI.a2==y.ESI.a2)&&((x.ESI.a3==y.ESI.a3)&&((x.ESI.a4==y.ESI.a4)&&((x.ESI.a5==y.ESI.a5)&&((x.ESI.a6==y.ESI.a6)&&((x.ESI.a7==y.ESI.a7)&&((x.ESI.a8==y.ESI.a8)&&((x.ESI.a9==y.ESI.a9)&&((x.Tag==y.Tag)&&((x.MAC==y.MAC)&&((x.IP==y.IP)&&((x.HasIP==y.HasIP)&&((x.Prefix.IP==y.Prefix.IP)&&((x.Prefix.Len==y.Prefix.Len)&&((x.Gateway==y.Gateway)&&((x.Label==y.Label)&&((x.Label2==y.Label2)&&true)))))))))))))))))))))
theorem eqN_iff(x y:NLRI):eqN x y=true↔x=y:=by
 obtain⟨k,rd,⟨e0,e1,e2,e3,e4,e5,e6,e7,e8,e9⟩,tg,mc,ip,hi,⟨p1,p2⟩,gw,lb,l2⟩:=x;obtain⟨k',rd',⟨f0,f1,f2,f3,f4,f5,f6,f7,f8,f9⟩,tg',mc',ip',hi',⟨q1,q2⟩,gw',lb',l2'⟩:=y;simp[eqN,and_assoc]
theorem sameA_at(n:Nat)(hn:100000≤n){a:Attrs}(hc:a.Comms.length≤1000)(hp:a.Path.length≤1000)(hk:a.Clusters.length≤1000):At (c_kit_SameAttrs.S n (a,a)) (fun r:Bool=>r=true):=by
 refine(?_ :AtG n (g_kit_SameAttrs a a) _);unfold g_kit_SameAttrs;have no:∀{α:Type} [BEq α] [ReflBEq α] {x:α},¬(x==x)=false:=fun {α _ _ x} h=>by rw[beq_self_eq_true]at h;cases h
 refine .skip (.br (fun _=>?_) fun h=>absurd h no)
 refine .skip (.call _ (sameU_at n _ (by omega) (by omega)) fun r3 h3=>.skip (.br (fun _=>?_) fun h=>(by rw[h3]at h;cases h)))
 refine .skip (.br (fun _=>?_) fun h=>absurd h no)
 refine .skip (.br (fun _=>?_) fun h=>absurd h no)
 refine .skip (.br (fun _=>?_) fun h=>absurd h no)
 refine .skip (.br (fun _=>?_) fun h=>absurd h no)
 refine .skip (.br (fun _=>?_) fun h=>absurd h no)
 refine .skip (.br (fun _=>?_) fun h=>absurd h no)
 refine .skip (.br (fun _=>?_) fun h=>absurd h no)
 refine .skip (.call _ (sameP_at n _ (by omega) (by omega)) fun r4 h4=>.skip (.br (fun _=>?_) fun h=>(by rw[h4]at h;cases h)))
 refine .skip (.call _ (sameC_at n _ (by omega) (by omega)) fun r5 h5=>.skip (.br (fun _=>?_) fun h=>(by rw[h5]at h;cases h)))
 exact .skip (.done rfl (by simp))
theorem sameR_at(n:Nat)(hn:100000≤n){x y:Route}(hc:y.A.Comms.length≤1000)(hp:y.A.Path.length≤1000)(hk:y.A.Clusters.length≤1000)(hxy:x.N=y.N→x=y):At (c_kit_SameRoute.S n (x,y)) (fun r:Bool=>r=true↔x=y):=by
 refine(?_ :AtG n (g_kit_SameRoute x y) _);unfold g_kit_SameRoute;refine .skip (.br (fun h=>?_) fun h=>.skip (.done rfl ⟨fun h=>(by cases h),fun e=>(by subst e;have h':eqN x.N x.N=false:=h;rw[(eqN_iff _ _).2 rfl]at h';cases h')⟩))
 obtain rfl:=hxy ((eqN_iff _ _).1 h);refine .skip (.call _ (sameA_at n hn hc hp hk) fun r3 h3=>.skip (.br (fun _=>?_) fun h=>(by rw[h3]at h;cases h)))
 refine .skip (.br (fun _=>.skip (.done rfl ?_)) fun h=>(by simp at h))
 simp
theorem contains_at(n:Nat)(hn:100000≤n){l:List Route}{x:Route}(hl:l.length<100000)(hc:x.A.Comms.length≤1000)(hp:x.A.Path.length≤1000)(hk:x.A.Clusters.length≤1000)(hxy:∀y∈l,y.N=x.N→y=x):At (c_law32_contains.S n (l,x)) (fun r:Bool=>r=true↔x∈l):=by
 refine(?_ :AtG n (g_law32_contains l x) _);unfold g_law32_contains;refine .skip ?_;refine .loop (fun a:Int=>IdxI l (fun pre (_:Unit)=>∀y∈pre,y≠x) (a,())) (fun a=>l.length - a.toNat) (Sum.elim (fun _:Unit=>x∈l) fun _=>∀y∈l,y≠x) rfl (IdxI.start (by simp)) (by simp;omega) (fun a ha=>?_) (fun t ht=>?_)
 ·refine .skip (.op () rfl (.skip (.br (fun h=>?_) fun h=>.skip (.done rfl (ha.fin h)))))
  obtain⟨y,pre,h1,h2,h3,-,h4⟩:=ha.get h;refine .skip (.op y h1 (.skip (.call _ (sameR_at n hn hc hp hk (hxy y h2)) fun r5 h5=>.br (fun h=>.skip (.done rfl ?_)) fun h=>.skip (.done rfl (h4 hl () ?_)))))
  ·show x∈l;rw[← h5.1 h];exact h2
  ·intro z hz;rcases List.mem_append.1 hz with hz |hz
   ·exact h3 z hz
   ·simp only[List.mem_singleton]at hz;subst hz;intro e;rw[h5.2 e]at h;cases h
 ·cases t with
  |inl t=>exact .done rfl ⟨fun _=>ht,fun _=>rfl⟩
  |inr t=>exact .skip (.done rfl ⟨fun h=>(by cases h),fun h=>absurd rfl (ht x h)⟩)
theorem vf_ranged{f:Fabric}(hv:Vf f):Ranged f:=by
 have hl:=hv.bds;refine⟨fun b hb=>?_,fun h hh=>?_⟩
 ·obtain⟨i,hi,rfl⟩:=List.getElem_of_mem hb;have:=hv.bd i _ (List.getElem?_eq_getElem hi);rcases this.2.2.2.2 with⟨e,_⟩ |⟨e,_⟩<;>rw[e]<;>simp only<;>omega
 ·obtain⟨i,hi,rfl⟩:=List.getElem_of_mem hh;have:=hv.host i _ (List.getElem?_eq_getElem hi);have hl2:=hv.hosts;rcases this.2.2.2.2 with e |⟨b,hb,hg,e⟩
  ·rw[e];omega
  ·obtain⟨b',hb',_⟩:=at_in f.BDs _ this.2.1 this.2.2.1;have h2:=at?_nat f.BDs (f.Hosts[i]).BD.toNat;rw[Int.toNat_of_nonneg this.2.1,hb]at h2;have h3:=hv.bd _ b h2.symm;have:=this.2.2.1;rcases h3.2.2.2.2 with⟨_,g⟩ |⟨q,_⟩
   ·exact absurd g hg
   ·rw[e,q];simp only;omega
theorem refcheck_v(n:Nat)(hn:5000≤n)(f:Fabric)(hv:Vf f):At (c_ref22_Check.S n f) (fun(r:Int×ByteArray×Int)=>r.1=0):=by
 refine(At.eq (r:=checkS f) fun k=>ref_Check n hn f (vf_small hv) (vf_ranged hv) k).mono fun r hr=>?_
 rw[hr,vf_check hv]
theorem refvalid_v(n:Nat)(hn:5000≤n)(f:Fabric)(hv:Vf f):At (c_ref22_valid.S n f) (fun(b:Bool)=>b=true):=by
 refine(?_ :AtG n (g_ref22_valid f) _);unfold g_ref22_valid;refine .skip (.call _ (refcheck_v n hn f hv) fun r hr=>.skip (.done rfl ?_))
 rw[hr];rfl
theorem rwithin_at(n:Nat)(x hi:Int):At (c_ref22_within.S n (x,(0:Int),hi)) (fun r:Bool=>r=(decide (0≤x)&&decide (x≤hi))):=by
 refine(At.eq (r:= !out x 0 hi) fun k=>ref_within n x 0 hi k).mono fun r hr=>?_
 rw[hr];unfold out;by_cases h0:x<0
 ·simp[h0,show ¬(0≤x)by omega]
 ·by_cases h1:hi<x
  ·simp[h1,show ¬(x≤hi)by omega]
  ·simp[h0,h1,show 0≤x by omega,show x≤hi by omega]
theorem resi2_at(n:Nat)(hn:5000≤n){f:Fabric}(hv:Vf f){s:Int}(h0:0≤s)(h1:s<(f.Segments.length:Int)):At (c_ref22_ESI.S n (f,s)) (fun e:V10 Int=>e=if 1<(sgD f s).Leaves.length then esV s else esi0):=by
 have hS:=hv.segments;have hsg:at? f.Segments s=some (sgD f s):=(at_inD (α:=Segment) ⟨[],[]⟩ h0 h1).1;have hm:At (c_ref22_Multihomed.S n (f,s)) (fun b:Bool=>b=decide (1<(sgD f s).Leaves.length)):=by
  refine(?_ :AtG n (g_ref22_Multihomed f s) _);refine .skip (.call _ (refvalid_v n hn f hv) fun r3 h3=>.skip (.br (fun _=>.skip (.op () rfl (.skip (.call _ (rwithin_at n s _) fun r4 h4=>.skip (.br (fun _=>.skip (.op _ hsg (.skip (.op () rfl (.skip (.done rfl ?_)))))) fun h=>?_))))) fun h=>(by rw[h3]at h;cases h)))
  ·simp only[gt_iff_lt,decide_eq_decide];omega
  ·rw[h4,wrap_i64 (by omega) (by omega)]at h
   simp[h0,show s≤(f.Segments.length:Int) - 1 by omega]at h
 have he:At (c_ref01_SegmentESI.S n s) (fun r:V10 Int×Int=>r.1=esV s):=by
  refine(?_ :AtG n (g_ref01_SegmentESI s) _);unfold g_ref01_SegmentESI;refine .skip (.br (fun h=>(by simp only[decide_eq_true_eq]at h;omega)) fun _=>.skip (.br (fun h=>(by simp only[decide_eq_true_eq]at h;omega)) fun _=>.skip (.done rfl ?_)))
  show(@V10.mk Int 3 0 0 0 0 0 0 0 0 _)=esV s;unfold esV;congr 1
  first
   | (rw[wrap_i64 (by omega) (by omega)];simp[IntKind.wrap,IntKind.bits,IntKind.signed];omega)
   | (simp[IntKind.wrap,IntKind.bits,IntKind.signed];omega)
 refine(?_ :AtG n (g_ref22_ESI f s) _);refine .skip (.call _ hm fun r3 h3=>.skip (.br (fun h=>.skip (.done rfl ?_)) fun h=>.skip (.call _ he fun r5 h5=>.skip (.done rfl ?_))))
 ·have h:=nbT h;rw[h3]at h;rw[if_neg (of_decide_eq_false h)];rfl
 ·have h:=nbF h;rw[h3]at h;rw[if_pos (of_decide_eq_true h)];exact h5
theorem rrd_at(n:Nat){ip x:Int}(h:inW ip)(x0:0≤x)(x1:x<65536):At (c_ref04_RD.S n (ip,x)) (fun(r:Int)=>r=rdS ip x):=by
 refine⟨_,?_,rfl⟩;obtain⟨h0,h1⟩:=h;show(g_ref04_RD ip x).run n=_;simp only[g_ref04_RD,G.run,tsOk,if_true];have e1:IntKind.wrap .u64 ip=ip:=wrap_u64_id h0 (by omega)
 have e2:IntKind.wrap .u64 x=x:=wrap_u64_id x0 (by omega)
 have e3:IntKind.wrap .u64 (ip*2 ^ (min (Int.toNat (16:Int)) (IntKind.bits .u64)))=ip*65536:=by
  show IntKind.wrap .u64 (ip*65536)=_;exact wrap_u64_id (by omega) (by omega)
 rw[e1,e2,e3,wrap_u64_id (x:=281474976710656+ip*65536) (by omega) (by omega),wrap_u64_id (by omega) (by omega)];rfl
theorem refloop_v(n:Nat)(hn:5000≤n){f:Fabric}(hv:Vf f){i:Int}(h0:0≤i)(h1:i<f.Leaves):At (c_ref22_Loopback.S n (f,i)) (fun(r:Int)=>r=lpV i):=by
 have hl:=hv.leaves;have hs:=hv.spines;refine(?_ :AtG n (g_ref22_Loopback f i) _);refine .skip (.call _ (refvalid_v n hn f hv) fun r3 h3=>.skip (.br (fun h=>(by rw[h3]at h;cases h)) fun _=>.skip (.call _ (rwithin_at n i _) fun r5 h5=>.skip (.br (fun h=>?_) fun _=>.skip (.call _ (rlp_at n i h0 (by omega)) fun r7 h7=>.skip (.done rfl (by rw[h7])))))))
 rw[h5,wrap_i64 (x:=f.Leaves+f.Spines) (by omega) (by omega),wrap_i64 (by omega) (by omega)]at h
 simp[h0,show i≤f.Leaves+f.Spines - 1 by omega]at h
def bdrV(f:Fabric)(self b:Int):Int:=if 0≤b∧b<(f.BDs.length:Int)then rdS (lpV self) (1+b)else 0
theorem bdrd_at(n:Nat)(hn:5000≤n){f:Fabric}(hv:Vf f){self:Int}(h0:0≤self)(h1:self<f.Leaves)(b:Int):At (c_ref22_BDRD.S n (f,self,b)) (fun r:Int=>r=bdrV f self b):=by
 have hB:=hv.bds;have hL:=hv.leaves;refine(?_ :AtG n (g_ref22_BDRD f self b) _);refine .skip (.op () rfl (.skip (.call _ (rwithin_at n b _) fun r4 h4=>.skip (.br (fun h=>.skip (.done rfl ?_)) fun h=>?_))))
 ·have h:=nbT h;rw[h4,wrap_i64 (by omega) (by omega)]at h
  unfold bdrV;rw[if_neg];intro hc;simp[hc.1,show b≤(f.BDs.length:Int) - 1 by omega]at h
 ·have h:=nbF h;rw[h4,wrap_i64 (by omega) (by omega)]at h
  simp only[Bool.and_eq_true,decide_eq_true_eq]at h;have hr:At (c_ref22_rd.S n (f,self,1+b)) (fun r:Int=>r=rdS (lpV self) (1+b)):=by
   refine(?_ :AtG n (g_ref22_rd f self (1+b)) _);refine .skip (.call _ (refvalid_v n hn f hv) fun r3 h3=>.skip (.br (fun h=>(by rw[h3]at h;cases h)) fun _=>.skip (.call _ (rwithin_at n self _) fun r6 h6=>.skip (.br (fun h=>?_) fun _=>.skip (.call _ (refloop_v n hn hv h0 h1) fun r8 h8=>.skip (.call _ (?_ :At _ (fun r:Int=>r=rdS (lpV self) (1+b))) fun r9 h9=>.skip (.done rfl h9)))))))
   ·rw[h6,wrap_i64 (by omega) (by omega)]at h
    simp[h0,show self≤f.Leaves - 1 by omega]at h
   ·rw[h8,wrap_u16_id (by omega) (by omega)]
    exact rrd_at n (by unfold inW lpV;omega) (by omega) (by omega)
  refine .skip (.call _ (by rw[wrap_i64 (x:=1+b) (by omega) (by omega)];exact hr) fun r6 h6=>.skip (.done rfl ?_))
  rw[h6];unfold bdrV;rw[if_pos (by omega)]
theorem mem_all{o:origin_origin}{x:Route}:x∈allO o↔(∃b∈carL o,x=floodR o b)∨(∃s∈shL o,x=segR o s)∨(∃s∈shL o,x=wholeR o s)∨(∃s∈shL o,∃b∈(sgD o.fabric s).BDs,x=partR o s b)∨(∃m∈useF o o.near,x∈addrR o m)∨∃b∈(idx 32).filter (prefB o),x=prefR o b:=by
 unfold allO;simp only[List.mem_append,List.mem_map,List.mem_flatMap];constructor
 ·rintro(((((⟨b,h,rfl⟩ |⟨b,h,rfl⟩) |⟨b,h,rfl⟩) |⟨s,h,b,hb,rfl⟩) |⟨m,h,hx⟩) |⟨b,h,rfl⟩)
  ·exact .inl ⟨b,h,rfl⟩
  ·exact .inr (.inl ⟨b,h,rfl⟩)
  ·exact .inr (.inr (.inl ⟨b,h,rfl⟩))
  ·exact .inr (.inr (.inr (.inl ⟨s,h,b,hb,rfl⟩)))
  ·exact .inr (.inr (.inr (.inr (.inl ⟨m,h,hx⟩))))
  ·exact .inr (.inr (.inr (.inr (.inr ⟨b,h,rfl⟩))))
 ·rintro(⟨b,h,rfl⟩ |⟨b,h,rfl⟩ |⟨b,h,rfl⟩ |⟨s,h,b,hb,rfl⟩ |⟨m,h,hx⟩ |⟨b,h,rfl⟩)
  ·exact .inl (.inl (.inl (.inl (.inl ⟨b,h,rfl⟩))))
  ·exact .inl (.inl (.inl (.inl (.inr ⟨b,h,rfl⟩))))
  ·exact .inl (.inl (.inl (.inr ⟨b,h,rfl⟩)))
  ·exact .inl (.inl (.inr ⟨s,h,b,hb,rfl⟩))
  ·exact .inl (.inr ⟨m,h,hx⟩)
  ·exact .inr ⟨b,h,rfl⟩
theorem useF_nd{o:origin_origin}{l:List Near}(h:l.Pairwise fun a b=>plN a≠plN b):useF o l=l.filter (okO o):=by
 have:∀(l acc:List Near),l.Pairwise (fun a b=>plN a≠plN b)→(∀a∈acc,∀b∈l,plN a≠plN b)→l.foldl (fun acc n=>if okO o n=true∧¬(n.BD,n.MAC)∈acc.map (fun m=>(m.BD,m.MAC))then acc++[n]else acc) acc=acc++l.filter (okO o):=by
  intro l;induction l with
  |nil=>intro acc _ _;simp
  |cons x l ih=>
   intro acc h1 h2;rw[List.pairwise_cons]at h1;simp only[List.foldl_cons];have hx:¬(x.BD,x.MAC)∈acc.map (fun m=>(m.BD,m.MAC)):=by
    intro hm;obtain⟨a,ha,he⟩:=List.mem_map.1 hm;refine h2 a ha x (by simp) ?_
    simp only[Prod.mk.injEq]at he;unfold plN;rw[he.1,he.2]
   by_cases hk:okO o x=true
   ·rw[if_pos ⟨hk,hx⟩,ih _ h1.2 (fun a ha b hb=>by
     rcases List.mem_append.1 ha with ha |ha
     ·exact h2 a ha b (by simp[hb])
     ·simp only[List.mem_singleton]at ha;subst ha;exact h1.1 b hb),List.filter_cons,if_pos hk]
    simp
   ·rw[if_neg (fun hc=>hk hc.1),ih _ h1.2 (fun a ha b hb=>h2 a ha b (by simp[hb])),List.filter_cons,if_neg hk]
 simpa[useF]using this l [] h (by simp)
section
variable {f:Fabric} (hv:Vf f) {self:Int} (hs:0≤self∧self<f.Leaves) {up:List Bool} (hu:up.length=f.Segments.length) {near:List Near} (claims:List Claim) (hnd:near.Pairwise fun a b=>plN a≠plN b) {port:Int} (hp:0≤port∧port<(f.Segments.length:Int))
include hu hp
theorem live_down(s:Int):liveO (mkA f self (up.set port.toNat false) near claims) s=(liveO (mkA f self up near claims) s&& !decide (s=port)):=by
 unfold liveO;show(decide (0≤s)&&(decide (s<((up.set port.toNat false).length:Int))&&((at? (up.set port.toNat false) s).getD false&&elI (sgD f s).Leaves self)))=_;show _=((decide (0≤s)&&(decide (s<(up.length:Int))&&((at? up s).getD false&&elI (sgD f s).Leaves self)))&& !decide (s=port));rw[List.length_set];by_cases h0:0≤s
 ·have e:(at? (up.set port.toNat false) s).getD false=((at? up s).getD false&& !decide (s=port)):=by
   unfold at?;rw[if_pos h0,if_pos h0,List.getElem?_set];by_cases hsp:s=port
   ·subst hsp;rw[if_pos rfl,if_pos (by omega)];simp
   ·rw[if_neg (by omega)];simp[hsp]
  rw[e];cases(at? up s).getD false<;>cases decide (s=port)<;>simp
 ·simp[h0]
theorem ok_down(m:Near):okO (mkA f self (up.set port.toNat false) near claims) m=(okO (mkA f self up near claims) m&& !decide (m.Segment=port)):=by
 unfold okO;rw[live_down hu claims hp];show((liveO (mkA f self up near claims) m.Segment&& !decide (m.Segment=port))&&(elI (sgD f m.Segment).BDs m.BD&&_))=((liveO (mkA f self up near claims) m.Segment&&(elI (sgD f m.Segment).BDs m.BD&&_))&&_);cases liveO (mkA f self up near claims) m.Segment<;>cases decide (m.Segment=port)<;>simp
theorem sh_down(s:Int):s∈shL (mkA f self (up.set port.toNat false) near claims)↔s∈shL (mkA f self up near claims)∧s≠port:=by
 unfold shL shB;simp only[List.mem_filter,live_down hu claims hp];show(s∈idx f.Segments.length∧(decide (1<(sgD f s).Leaves.length)&&(liveO (mkA f self up near claims) s&& !decide (s=port)))=true)↔(s∈idx f.Segments.length∧(decide (1<(sgD f s).Leaves.length)&&liveO (mkA f self up near claims) s)=true)∧s≠port;simp only[Bool.and_eq_true,decide_eq_true_eq,Bool.not_eq_true',decide_eq_false_iff_not,ne_eq];constructor
 ·rintro⟨a,b,c,d⟩;exact⟨⟨a,b,c⟩,d⟩
 ·rintro⟨⟨a,b,c⟩,d⟩;exact⟨a,b,c,d⟩
def GoneP(f:Fabric)(self:Int)(up:List Bool)(near:List Near)(port:Int)(x:Route):Prop:=
 (at? up port).getD false=true∧((1<(sgD f port).Leaves.length∧x.N.ESI=esV port)∨(x.N.Kind=2∧∃m∈near,m.Segment=port∧m.MAC=x.N.MAC∧x.N.RD=bdrV f self m.BD))
include hv hs hnd
theorem down_iff(x:Route):x∈allO (mkA f self (up.set port.toNat false) near claims)↔x∈allO (mkA f self up near claims)∧¬GoneP f self up near port x:=by
 have hS:=hv.segments;have hT:=hv.tenants;have hlive:∀{s:Int},liveO (mkA f self up near claims) s=true→(at? up s).getD false=true:=fun {s} h=>by
  unfold liveO at h;simp only[Bool.and_eq_true]at h;exact h.2.2.1
 have hshp:∀{s:Int},s∈shL (mkA f self up near claims)→(0≤s∧s<60)∧1<(sgD f s).Leaves.length∧(at? up s).getD false=true:=fun {s} h=>by
  obtain⟨h1,h2⟩:=List.mem_filter.1 h;have h1':s∈idx f.Segments.length:=h1;rw[mem_idx]at h1';unfold shB at h2;rw[Bool.and_eq_true,decide_eq_true_eq]at h2;exact⟨⟨h1'.1,by omega⟩,h2.1,hlive h2.2⟩
 have esi:∀{s t:Int},esV s=esV t→s=t:=fun {s t} h=>by
  have:=congrArg V10.a9 h;simp only[esV]at this;omega
 have es0:∀{s:Int},esi0≠esV s:=fun {s} h=>by
  have:=congrArg V10.a0 h;simp[esV,esi0]at this
 have gS:∀{s:Int} {x:Route},s∈shL (mkA f self up near claims)→x.N.ESI=esV s→x.N.Kind≠2→(GoneP f self up near port x↔s=port):=fun {s x} hs' he hk=>by
  obtain⟨-,h2,h3⟩:=hshp hs';constructor
  ·rintro⟨-,⟨-,h⟩ |⟨h,-⟩⟩
   ·rw[he]at h;exact esi h
   ·exact absurd h hk
  ·rintro rfl;exact⟨h3,.inl ⟨h2,he⟩⟩
 have gF:∀{x:Route},x.N.ESI=esi0→x.N.Kind≠2→¬GoneP f self up near port x:=fun {x} he hk=>by
  rintro⟨-,⟨-,h⟩ |⟨h,-⟩⟩
  ·rw[he]at h;exact es0 h
  ·exact hk h
 have gM:∀{m:Near} {x:Route},m∈near→okO (mkA f self up near claims) m=true→x∈addrR (mkA f self up near claims) m→(GoneP f self up near port x↔m.Segment=port):=fun {m x} hm hok hx=>by
  obtain⟨k1,k2,k3⟩:=mem_addr _ hx;have hE:x.N.ESI=esO (mkA f self up near claims) m.Segment:=by
   unfold addrR at hx;split at hx
   ·simp only[List.mem_cons,List.not_mem_nil,or_false]at hx;rcases hx with rfl |rfl<;>rfl
   ·simp only[List.mem_singleton]at hx;subst hx;rfl
  have hlv:liveO (mkA f self up near claims) m.Segment=true:=by
   unfold okO at hok;simp only[Bool.and_eq_true]at hok;exact hok.1
  have hel:elI (sgD f m.Segment).BDs m.BD=true:=by
   unfold okO at hok;simp only[Bool.and_eq_true]at hok;exact hok.2.1
  have hls:=hlv;unfold liveO at hls;simp only[Bool.and_eq_true,decide_eq_true_eq]at hls;have hs1:m.Segment<(f.Segments.length:Int):=by have:m.Segment<(up.length:Int):=hls.2.1;omega
  have hsm:sgD f m.Segment∈f.Segments:=(at_inD _ hls.1 hs1).2;obtain⟨b0,b1⟩:=(hv.seg _ hsm).2.2.2.1 m.BD (elI_iff.1 hel);have hrd:x.N.RD=bdrV f self m.BD:=by rw[k2];unfold bdrV;rw[if_pos ⟨b0,b1⟩];rfl
  constructor
  ·rintro⟨-,⟨h1,h⟩ |⟨-,m',hm',h1,h2,h3⟩⟩
   ·rw[hE]at h;unfold esO at h;split at h
    ·exact absurd h es0
    ·exact esi h
   ·rw[hrd]at h3;have hbd:m'.BD=m.BD:=by
     unfold bdrV at h3;rw[if_pos ⟨b0,b1⟩]at h3;split at h3
     ·unfold rdS at h3;omega
     ·unfold rdS lpV at h3;omega
    have:plN m'=plN m:=by unfold plN;rw[hbd,h2,k3]
    have:m'=m:=by
     by_cases he:m'=m
     ·exact he
     ·exfalso;obtain⟨i,hi,rfl⟩:=List.getElem_of_mem hm';obtain⟨j,hj,rfl⟩:=List.getElem_of_mem hm;rcases Nat.lt_trichotomy i j with hij |hij |hij
      ·exact(List.pairwise_iff_getElem.1 hnd) i j hi hj hij this
      ·subst hij;exact he rfl
      ·exact(List.pairwise_iff_getElem.1 hnd) j i hj hi hij this.symm
    rw[← this];exact h1
  ·rintro h;exact⟨by rw[← h];exact hlive hlv,.inr ⟨k1,m,hm,h,k3.symm,hrd⟩⟩
 have hU1:useF (mkA f self up near claims) near=near.filter (okO (mkA f self up near claims)):=useF_nd hnd;have hU2:useF (mkA f self (up.set port.toNat false) near claims) near=near.filter (okO (mkA f self (up.set port.toNat false) near claims)):=useF_nd hnd;rw[mem_all,mem_all];constructor
 ·rintro(⟨b,h,rfl⟩ |⟨b,h,rfl⟩ |⟨b,h,rfl⟩ |⟨s,h,b,hb,rfl⟩ |⟨m,h,hx⟩ |⟨b,h,rfl⟩)
  ·exact⟨.inl ⟨b,h,rfl⟩,gF rfl (by show(3:Int)≠2;omega)⟩
  ·rw[sh_down hu claims hp]at h;exact⟨.inr (.inl ⟨b,h.1,rfl⟩),fun hg=>h.2 ((gS h.1 rfl (by show(4:Int)≠2;omega)).1 hg)⟩
  ·rw[sh_down hu claims hp]at h;exact⟨.inr (.inr (.inl ⟨b,h.1,rfl⟩)),fun hg=>h.2 ((gS h.1 rfl (by show(1:Int)≠2;omega)).1 hg)⟩
  ·rw[sh_down hu claims hp]at h;exact⟨.inr (.inr (.inr (.inl ⟨s,h.1,b,hb,rfl⟩))),fun hg=>h.2 ((gS h.1 rfl (by show(1:Int)≠2;omega)).1 hg)⟩
  ·have h':m∈useF (mkA f self (up.set port.toNat false) near claims) near:=h;rw[hU2,List.mem_filter,ok_down hu claims hp,Bool.and_eq_true]at h';obtain⟨h1,h2,h3⟩:=h';refine⟨.inr (.inr (.inr (.inr (.inl ⟨m,?_,hx⟩)))),fun hg=>?_⟩
   ·show m∈useF (mkA f self up near claims) near;rw[hU1,List.mem_filter];exact⟨h1,h2⟩
   ·have:=(gM h1 h2 hx).1 hg;rw[this]at h3;simp at h3
  ·exact⟨.inr (.inr (.inr (.inr (.inr ⟨b,h,rfl⟩)))),gF rfl (by show(5:Int)≠2;omega)⟩
 ·rintro⟨⟨b,h,rfl⟩ |⟨b,h,rfl⟩ |⟨b,h,rfl⟩ |⟨s,h,b,hb,rfl⟩ |⟨m,h,hx⟩ |⟨b,h,rfl⟩,hg⟩
  ·exact .inl ⟨b,h,rfl⟩
  ·exact .inr (.inl ⟨b,(sh_down hu claims hp b).2 ⟨h,fun e=>hg ((gS h rfl (by show(4:Int)≠2;omega)).2 e)⟩,rfl⟩)
  ·exact .inr (.inr (.inl ⟨b,(sh_down hu claims hp b).2 ⟨h,fun e=>hg ((gS h rfl (by show(1:Int)≠2;omega)).2 e)⟩,rfl⟩))
  ·exact .inr (.inr (.inr (.inl ⟨s,(sh_down hu claims hp s).2 ⟨h,fun e=>hg ((gS h rfl (by show(1:Int)≠2;omega)).2 e)⟩,b,hb,rfl⟩)))
  ·have h':m∈useF (mkA f self up near claims) near:=h;rw[hU1,List.mem_filter]at h';refine .inr (.inr (.inr (.inr (.inl ⟨m,?_,hx⟩))));show m∈useF (mkA f self (up.set port.toNat false) near claims) near;rw[hU2,List.mem_filter,ok_down hu claims hp,Bool.and_eq_true];refine⟨h'.1,h'.2,?_⟩;have:m.Segment≠port:=fun e=>hg ((gM h'.1 h'.2 hx).2 e)
   simp[this]
  ·exact .inr (.inr (.inr (.inr (.inr ⟨b,h,rfl⟩))))
end
end Go.L
end
section
namespace Go.L
open Go.AM Go.Sort
theorem uniq_N{l:List Route}(hp:l.Pairwise fun a b=>cmpN a.N b.N<0){x y:Route}(hx:x∈l)(hy:y∈l)(h:x.N=y.N):x=y:=by
 obtain⟨i,hi,rfl⟩:=List.getElem_of_mem hx;obtain⟨j,hj,rfl⟩:=List.getElem_of_mem hy;rcases Nat.lt_trichotomy i j with hij |hij |hij
 ·have:=(List.pairwise_iff_getElem.1 hp) i j hi hj hij;rw[h]at this;exact absurd this (cmpN_irr _)
 ·subst hij;rfl
 ·have:=(List.pairwise_iff_getElem.1 hp) j i hj hi hij;rw[h]at this;exact absurd this (cmpN_irr _)
theorem at_left{α:Type}{l:List α}{i:Int}{y:α}(r:List α)(h:at? l i=some y):at? (l++r) i=some y:=by
 unfold at? at*;split at h
 ·rename_i h0;rw[if_pos h0,List.getElem?_append_left (List.getElem?_eq_some_iff.1 h).1];exact h
 ·cases h
theorem own_at(n:Nat)(k:Nat)(l:List Bool)(hl:l.length≤1000):At ((cn_kit_Own_bool k).S n l) (fun r:List Bool=>r=l):=by
 refine(?_ :AtG n (gn_kit_Own_bool l) _);refine .skip (.op () (ifU ⟨rfl,by simp[roomy];omega⟩) (.skip (.done rfl ?_)))
 rfl
def gonE(f:Fabric)(self port:Int)(x:Route)(m:Near):Prop:=m.Segment=port∧m.MAC=x.N.MAC∧x.N.RD=bdrV f self m.BD
noncomputable def dnB(f:Fabric)(self:Int)(B:List Bool)(port:Int)(near:List Near)(x:Route)(a108:Bool×Int):G prog ((Bool×Int)⊕(Sh.one Bool).El):=
 .skip 2<|.op (lenO near eNear) fun _=>.skip 2<|.br 146 (decide (a108.2<(((List.length near):Nat):Int))) (.skip 4<|.br 150 (x.N.Kind==(2:Int)) (.skip 3<|.br 154 a108.1 (.skip 41<|.done [.keep [1,3,4,13,16,18,19,20,22,23,24,25]] (.inl (true,(IntKind.wrap .i64 (a108.2+(1:Int)))))) (.skip 2<|.op (idxO B eB 1 port) fun x110=>.skip 2<|.br 159 x110 (.skip 2<|.op (idxO near eNear 6 a108.2) fun x111=>.skip 6<|.br 168 (x111.Segment==port) (.skip 2<|.op (idxO near eNear 6 a108.2) fun x112=>.skip 7<|.br 178 (x112.MAC==x.N.MAC) (.skip 6<|.op (idxO near eNear 6 a108.2) fun x113=>.skip 2<|.call c_ref22_BDRD (f,self,x113.BD) fun(r114:Int)=>.skip 7<|.done [.keep [1,3,4,13,16,18,19,20,22,23,24,25]] (.inl ((x.N.RD==r114),(IntKind.wrap .i64 (a108.2+(1:Int)))))) (.skip 17<|.done [.keep [1,3,4,13,16,18,19,20,22,23,24,25]] (.inl (false,(IntKind.wrap .i64 (a108.2+(1:Int))))))) (.skip 27<|.done [.keep [1,3,4,13,16,18,19,20,22,23,24,25]] (.inl (false,(IntKind.wrap .i64 (a108.2+(1:Int))))))) (.skip 36<|.done [.keep [1,3,4,13,16,18,19,20,22,23,24,25]] (.inl (false,(IntKind.wrap .i64 (a108.2+(1:Int)))))))) (.skip 1<|.done [.keep [1,3,4,13,16,18,19,20,22,24]] (.inr a108.1))) (.skip 5<|.done [.keep [1,3,4,13,16,18,19,20,22,24]] (.inr a108.1))
section
variable {f:Fabric} (hv:Vf f) {self:Int} (hs:0≤self∧self<f.Leaves) {B:List Bool} {port:Int} {b:Bool} (hB:at? B port=some b) {near:List Near} (hne:near.length≤30)
include hv hs hB hne
theorem dn_loop{ρ:Type}(n:Nat)(hn:5000≤n)(x:Route){hd:List TS}{E:Bool×Int→St}{X:Bool→AOut×St}{k:Bool→G prog ρ}{p:ρ→Prop}(g0:Bool)(ht:tsOk hd=true)
 (hk:∀t:Bool,(t=true↔(g0=true∨(x.N.Kind=2∧b=true∧∃m∈near,gonE f self port x m)))→AtG n (k t) p):AtG n (.loop (.one Bool) hd E X (g0,(0:Int)) (fun a=>dnB f self B port near x a) k) p:=by
 refine .loop (fun a:Bool×Int=>∃i:Nat,a.2=(i:Int)∧i≤near.length∧(a.1=true↔(g0=true∨(x.N.Kind=2∧b=true∧∃m∈near.take i,gonE f self port x m)))) (fun a=>near.length - a.2.toNat) (fun t:Bool=>(t=true↔(g0=true∨(x.N.Kind=2∧b=true∧∃m∈near,gonE f self port x m)))) ht ⟨0,rfl,Nat.zero_le _,by simp⟩ (by simp;omega) (fun a ha=>?_) hk
 obtain⟨i,h1,h2,h3⟩:=ha;unfold dnB;refine .skip (.op () rfl (.skip (.br (fun h=>?_) fun h=>.skip (.done rfl ?_))))
 rotate_left
 ·show a.1=true↔_;simp only[decide_eq_false_iff_not]at h;have:i=near.length:=by omega
  subst this;rw[h3,List.take_length]
 simp only[decide_eq_true_eq]at h;have hi:i<near.length:=by omega
 have hm:at? near a.2=some near[i]:=by rw[h1,at?_nat];exact List.getElem?_eq_getElem hi
 have hinc:IntKind.wrap .i64 (a.2+(1:Int))=((i+1:Nat):Int):=by rw[wrap_i64 (by omega) (by omega)];omega
 have htk:near.take (i+1)=near.take i++[near[i]]:=by rw[List.take_add_one,List.getElem?_eq_getElem hi];rfl
 have next:∀r:Bool,(r=true↔(a.1=true∨(x.N.Kind=2∧b=true∧gonE f self port x near[i])))→RoundAt (fun a:Bool×Int=>∃i:Nat,a.2=(i:Int)∧i≤near.length∧(a.1=true↔(g0=true∨(x.N.Kind=2∧b=true∧∃m∈near.take i,gonE f self port x m)))) (fun a=>near.length - a.2.toNat) (fun t:Bool=>(t=true↔(g0=true∨(x.N.Kind=2∧b=true∧∃m∈near,gonE f self port x m)))) a (.inl (r,IntKind.wrap .i64 (a.2+(1:Int)))):=fun r hr=>by
  refine⟨⟨i+1,hinc,by omega,?_⟩,?_⟩
  ·show r=true↔_;rw[hr,h3,htk];simp only[List.mem_append,List.mem_singleton];constructor
   ·rintro((h |⟨k1,k2,m,hm,h⟩) |⟨k1,k2,h⟩)
    ·exact .inl h
    ·exact .inr ⟨k1,k2,m,.inl hm,h⟩
    ·exact .inr ⟨k1,k2,_,.inr rfl,h⟩
   ·rintro(h |⟨k1,k2,m,hm |hm,h⟩)
    ·exact .inl (.inl h)
    ·exact .inl (.inr ⟨k1,k2,m,hm,h⟩)
    ·subst hm;exact .inr ⟨k1,k2,h⟩
  ·show near.length - (IntKind.wrap .i64 (a.2+(1:Int))).toNat<near.length - a.2.toNat;rw[hinc,h1];simp only[Int.toNat_natCast];omega
 refine .skip (.br (fun hkd=>?_) fun hkd=>.skip (.done rfl ?_))
 rotate_left
 ·show a.1=true↔_;have hk2:¬x.N.Kind=2:=by simpa using hkd
  rw[h3];simp[hk2]
 have hk2:x.N.Kind=2:=by simpa using hkd
 refine .skip (.br (fun hg=>.skip (.done rfl (next true ⟨fun _=>.inl hg,fun _=>rfl⟩))) fun hg=>?_)
 refine .skip (.op b hB (.skip (.br (fun hb=>?_) fun hb=>.skip (.done rfl (next false ⟨fun h=>(by cases h),fun h=>(by rcases h with h |⟨-,h,-⟩;rw[hg]at h;cases h;rw[hb]at h;cases h)⟩)))))
 refine .skip (.op _ hm (.skip (.br (fun he=>?_) fun he=>.skip (.done rfl (next false ⟨fun h=>(by cases h),fun h=>(by rcases h with h |⟨-,-,h,-⟩;rw[hg]at h;cases h;rw[h]at he;simp at he)⟩)))))
 refine .skip (.op _ hm (.skip (.br (fun hmc=>?_) fun hmc=>.skip (.done rfl (next false ⟨fun h=>(by cases h),fun h=>(by rcases h with h |⟨-,-,-,h,-⟩;rw[hg]at h;cases h;rw[h]at hmc;simp at hmc)⟩)))))
 refine .skip (.op _ hm (.skip (.call _ (bdrd_at n hn hv hs.1 hs.2 _) fun r114 h114=>.skip (.done rfl (next _ ?_)))))
 rw[h114];constructor
 ·intro h;exact .inr ⟨hk2,hb,by simpa using he,by simpa using hmc,by simpa using h⟩
 ·rintro(h |⟨-,-,-,-,h⟩)
  ·rw[hg]at h;cases h
  ·simpa using h
end
theorem down_at(n:Nat)(hn:100000≤n)(nums:List Int)(a:Int)(up:List Bool)(p:Int)(near:List Near)(claims:List Claim)(hnr:∀x∈near,inW x.IP)(hseq:∀c∈claims,0≤c.Seq∧c.Seq<4294967296):
 At (c_law32_OriginDown.S n (nums,a,up,p,near,claims)) (fun r:Bool=>r=true):=by
 refine(?_ :AtG n (g_law32_OriginDown nums a up p near claims) _);unfold g_law32_OriginDown;refine .skip (.call _ (lives_at n (by omega)) fun r7 h7=>.skip (.br (fun h=>(by rw[h7]at h;cases h)) fun _=>?_))
 refine .skip (.call _ (light_at n nums up near claims) fun r9 h9=>.skip (.br (fun h=>.skip (.done rfl rfl)) fun h=>?_))
 obtain⟨hne,hcl,-⟩:=h9 (nbF h);refine .skip (.call _ (fab_at n (by omega) nums) fun(f:Fabric) hv=>?_)
 have hL:=hv.leaves;have hS:=hv.segments;refine .skip (.call _ (pick_at n a f.Leaves (by omega) (by omega)) fun(self:Int) hs=>.skip (.op () rfl (.call _ (pick_at n p _ (by omega) (by omega)) fun(port:Int) hp=>.skip ?_)))
 refine .loop (fun i:Int=>IdxI near (fun pre (_:Unit)=>pre.Pairwise fun a b=>plN a≠plN b) (i,())) (fun i=>near.length - i.toNat) (Sum.elim (fun _:Unit=>True) fun _=>near.Pairwise fun a b=>plN a≠plN b) rfl (IdxI.start (by simp)) (by simp;omega) (fun i hi=>?_) (fun t ht=>?_)
 ·refine .skip (.op () rfl (.skip (.br (fun h=>?_) fun h=>.skip (.done rfl (hi.fin h)))))
  obtain⟨x,pre,h1,h2,h3,⟨h5,post,jl⟩,h4⟩:=hi.get h
  replace h5:i=((pre.length:Nat):Int):=h5
  have hpl:pre.length≤30:=by have:=congrArg List.length jl;simp only[List.length_append]at this;omega
  refine .skip ?_;refine .loop (fun k:Int=>IdxI pre (fun p2 (_:Unit)=>∀y∈p2,plN y≠plN x) (k,())) (fun k=>pre.length - k.toNat) (Sum.elim (fun _:Unit=>True) fun _=>∀y∈pre,plN y≠plN x) rfl (IdxI.start (by simp)) (by simp;omega) (fun k hk=>?_) (fun t ht=>?_)
  ·refine .skip (.br (fun h=>?_) fun h=>.skip (.done rfl (hk.fin (by rw[h5]at h;exact h))))
   obtain⟨y,p2,k1,k2,k3,-,k4⟩:=hk.get (by rw[h5]at h;exact h)
   have ky:at? near k=some y:=by rw[jl];exact at_left _ k1
   have kn:(plN y≠plN x)→∀z∈p2++[y],plN z≠plN x:=fun hne z hz=>by
    rcases List.mem_append.1 hz with hz |hz
    ·exact k3 z hz
    ·simp only[List.mem_singleton]at hz;subst hz;exact hne
   refine .skip (.op x h1 (.skip (.op y ky (.skip (.br (fun hb=>?_) fun hb=>.skip (.done rfl (k4 (by omega) () (kn fun e=>?_))))))))
   ·refine .skip (.op x h1 (.skip (.op y ky (.skip (.br (fun hm=>.skip (.done rfl trivial)) fun hm=>.skip (.done rfl (k4 (by omega) () (kn fun e=>?_))))))))
    simp only[plN,origin_place.mk.injEq]at e;rw[e.2]at hm;simp at hm
   ·simp only[plN,origin_place.mk.injEq]at e;rw[e.1]at hb;simp at hb
  ·cases t with
   |inl t=>exact .done rfl trivial
   |inr t=>exact .skip (.done rfl (h4 (by omega) () (by
    rw[List.pairwise_append];refine⟨h3,by simp,fun a ha b hb=>?_⟩
    simp only[List.mem_singleton]at hb;subst hb;exact ht a ha)))
 cases t with
 |inl t=>exact .done rfl rfl
 |inr t=>
 have hnd:near.Pairwise fun a b=>plN a≠plN b:=ht
 refine .skip (.call _ (ports_at n f up (by omega)) fun r32 h32=>?_)
 subst h32;have hpl:=portV_len f up;have hun:∃b,at? (portV f up) port=some b:=by
  obtain⟨b,hb,-⟩:=at_in (portV f up) port hp.1 (by rw[hpl];exact hp.2)
  exact⟨b,hb⟩
 obtain⟨b,hb⟩:=hun;refine .skip (.callR _ (own_at n 1 (portV f up) (by omega)) fun(r33:List Bool) h33=>?_)
 subst h33;have hset:((portV f up).set port.toNat false).length=f.Segments.length:=by rw[List.length_set];exact hpl
 refine .skip (.op () (by show(if 0≤port∧port<(((portV f up).length:Nat):Int)then some ()else none)=_;exact ifU ⟨hp.1,by rw[hpl];exact hp.2⟩) (.op b (by show(portV f up)[port.toNat]? =some b;have:=hb;unfold at? at this;rwa[if_pos hp.1]at this) ?_))
 refine .skip (.call _ (routes_x n (by omega) hv (self:=self) hs hpl (by omega) (by omega) hseq) fun(l:List Route) hl=>?_)
 refine .skip (.tidy (by simp[tsOk,fzRow]) (.skip (.call _ (routes_x n (by omega) hv (self:=self) hs hset (by omega) (by omega) hseq) fun(m:List Route) hm=>?_)))
 refine .skip (.call _ (resi2_at n (by omega) hv hp.1 hp.2) fun(es:V10 Int) hes=>.skip ?_)
 have hlo:∀x∈l,Orig (lpV self) x:=fun x hx=>orig_of hv hs (portV f up) hnr claims x (hl.1.subset hx)
 have hll:l.length≤62184:=by rw[hl.1.length_eq];exact allO_len _ (gd_of hv) (by show near.length≤_;omega)
 have hml:m.length≤62184:=by rw[hm.1.length_eq];exact allO_len _ (gd_of hv) (by show near.length≤_;omega)
 have hiff:∀x,x∈m↔x∈l∧¬GoneP f self (portV f up) near port x:=fun x=>by
  rw[hm.1.mem_iff,hl.1.mem_iff];exact down_iff hv hs hpl claims hnd hp x
 have hsm:∀x∈l,x.A.Comms.length≤1000∧x.A.Path.length≤1000∧x.A.Clusters.length≤1000:=fun x hx=>by
  obtain⟨cl,ct,hatt,hci,-⟩:=(hlo x hx).att;have:=sortU_len cl;have:=hci.len;rw[hatt];unfold atR;simp;omega
 refine .loop (fun i:Int=>IdxI m (fun pre (_:Unit)=>True) (i,())) (fun i=>m.length - i.toNat) (Sum.elim (fun _:Unit=>False) fun _=>True) rfl (IdxI.start trivial) (by simp;omega) (fun i hi=>?_) (fun t ht=>?_)
 ·refine .skip (.op () rfl (.skip (.br (fun h=>?_) fun h=>.skip (.done rfl (hi.fin h)))))
  obtain⟨x,pre,h1,h2,-,-,h4⟩:=hi.get h;have hxl:=((hiff x).1 h2).1;obtain⟨s1,s2,s3⟩:=hsm x hxl;refine .skip (.op x h1 (.skip (.call _ (contains_at n hn (l:=l) (by omega) s1 s2 s3 fun y hy e=>uniq_N hl.2 hy hxl e) fun r40 h40=>.skip (.br (fun h=>?_) fun _=>.skip (.done rfl (h4 (by omega) () trivial))))))
  rw[h40.2 hxl]at h;cases h
 cases t with
 |inl t=>exact ht.elim
 |inr t=>
 refine .skip ?_;refine .loop (fun i:Int=>IdxI l (fun pre (_:Unit)=>True) (i,())) (fun i=>l.length - i.toNat) (Sum.elim (fun _:Unit=>False) fun _=>True) rfl (IdxI.start trivial) (by simp;omega) (fun i hi=>?_) (fun t ht=>?_)
 ·refine .skip (.op () rfl (.skip (.br (fun h=>?_) fun h=>.skip (.done rfl (hi.fin h)))))
  obtain⟨x,pre,h1,h2,-,-,h4⟩:=hi.get h;obtain⟨s1,s2,s3⟩:=hsm x h2;have hcm:=contains_at n hn (l:=m) (x:=x) (by omega) s1 s2 s3 fun y hy e=>uniq_N hl.2 ((hiff y).1 hy).1 h2 e
  have fin:∀(g0 t:Bool),(g0=true↔(b=true∧1<(sgD f port).Leaves.length∧x.N.ESI=esV port))→(t=true↔(g0=true∨(x.N.Kind=2∧b=true∧∃m∈near,gonE f self port x m)))→∀r:Bool,(r=true↔x∈m)→(r==t)=false:=fun g0 t hg0 ht r hr=>by
   have hgn:GoneP f self (portV f up) near port x↔t=true:=by
    unfold GoneP;rw[hb,ht,hg0];show(b=true∧_)↔_;unfold gonE;constructor
    ·rintro⟨k0,⟨k1,k2⟩ |⟨k1,mm,k2,k3⟩⟩
     ·exact .inl ⟨k0,k1,k2⟩
     ·exact .inr ⟨k1,k0,mm,k2,k3⟩
    ·rintro(⟨k0,k1,k2⟩ |⟨k1,k0,mm,k2,k3⟩)
     ·exact⟨k0,.inl ⟨k1,k2⟩⟩
     ·exact⟨k0,.inr ⟨k1,mm,k2,k3⟩⟩
   have hxm:=hiff x;rw[hgn]at hxm;cases hr':r<;>cases ht':t
   ·exfalso;rw[hr']at hr;rw[ht']at hxm;exact absurd (hr.2 (hxm.2 ⟨h2,by simp⟩)) (by simp)
   ·rfl
   ·rfl
   ·exfalso;rw[hr']at hr;rw[ht']at hxm;exact(hxm.1 (hr.1 rfl)).2 rfl
  refine .skip (.op x h1 (.skip (.op b hb (.skip (.br (fun hbt=>.skip (.br (fun hz=>.skip ?_) fun hz=>.skip ?_)) fun hbt=>.skip ?_)))))
  ·refine dn_loop hv hs hb hne n (by omega) x _ rfl fun t ht=>.skip (.op x h1 (.skip (.call _ hcm fun r123 h123=>.skip (.br (fun h=>?_) fun _=>.skip (.done rfl (h4 (by omega) () trivial))))))
   rw[fin _ t ?_ ht r123 h123]at h
   ·cases h
   ·have hes1:1<(sgD f port).Leaves.length:=by
     by_cases hc:1<(sgD f port).Leaves.length
     ·exact hc
     ·rw[if_neg hc]at hes;rw[hes]at hz;simp[esi0]at hz
    rw[if_pos hes1]at hes;subst hes;constructor
    ·intro h;refine⟨hbt,hes1,?_⟩;generalize x.N.ESI=e at h;obtain⟨e0,e1,e2,e3,e4,e5,e6,e7,e8,e9⟩:=e;simp only[Bool.and_eq_true,beq_iff_eq,and_true]at h;obtain⟨a0,a1,a2,a3,a4,a5,a6,a7,a8,a9⟩:=h;rw[a0,a1,a2,a3,a4,a5,a6,a7,a8,a9]
    ·rintro⟨-,-,h⟩;rw[h];simp
  ·refine dn_loop hv hs hb hne n (by omega) x _ rfl fun t ht=>.skip (.op x h1 (.skip (.call _ hcm fun r123 h123=>.skip (.br (fun h=>?_) fun _=>.skip (.done rfl (h4 (by omega) () trivial))))))
   rw[fin _ t ?_ ht r123 h123]at h
   ·cases h
   ·refine⟨fun h=>(by cases h),fun h=>?_⟩
    rw[if_pos h.2.1]at hes;rw[hes]at hz;have hz:=nbF hz;simp[esV]at hz
  ·refine dn_loop hv hs hb hne n (by omega) x _ rfl fun t ht=>.skip (.op x h1 (.skip (.call _ hcm fun r123 h123=>.skip (.br (fun h=>?_) fun _=>.skip (.done rfl (h4 (by omega) () trivial))))))
   rw[fin _ t ?_ ht r123 h123]at h
   ·cases h
   ·refine⟨fun h=>(by cases h),fun h=>?_⟩
    rw[hbt]at h;cases h.1
 ·cases t with
  |inl t=>exact ht.elim
  |inr t=>exact .skip (.done rfl rfl)
end Go.L
end
