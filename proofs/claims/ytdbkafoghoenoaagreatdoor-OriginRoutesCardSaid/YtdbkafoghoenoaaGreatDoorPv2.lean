/- Parts put together. No conditions. -/
import Derived.Test.YtdbkafoghoenoaaGreatDoorPo
import Derived.Test.YtdbkafoghoenoaaGreatDoorWv
set_option linter.unusedSectionVars false
set_option linter.unusedSimpArgs false
set_option linter.unusedVariables false
set_option maxRecDepth 100000
section
namespace Go.L
open Go.AM Go.Sort
theorem light_at(n:Nat)(l:List Int)(u:List Bool)(ns:List Near)(cs:List Claim):At (c_law32_light.S n (l,u,ns,cs)) (fun r:Bool=>r=true→ns.length≤30∧cs.length≤30∧u.length≤30):=by
 refine(?_ :AtG n (g_law32_light l u ns cs) _);unfold g_law32_light;refine .skip (.op () rfl (.skip (.br (fun h1=>.skip (.op () rfl (.skip (.br (fun h2=>.skip (.op () rfl (.skip (.br (fun h3=>.skip (.op () rfl (.skip (.done rfl fun h4=>?_)))) fun _=>.skip (.done rfl fun h=>(by cases h)))))) fun _=>.skip (.done rfl fun h=>(by cases h)))))) fun _=>.skip (.done rfl fun h=>(by cases h)))))
 grind
theorem fab_at(n:Nat)(hn:5000≤n)(l:List Int):At (c_kit_Fabric.S n l) Vf:=fabric_valid l hn
theorem rlp_at(n:Nat)(x:Int)(h0:0≤x)(h1:x<32):At (c_ref01_Loopback.S n x) (fun(r:Int×Int)=>r=(lpV x,0)):=by
 refine(?_ :AtG n (g_ref01_Loopback x) _);refine .skip (.br (fun h=>(by grind)) fun _=>.skip (.br (fun h=>(by grind)) fun _=>.skip (.done rfl ?_)))
 show(IntKind.wrap .u32 ((IntKind.wrap .u32 ((184483840:Int)+(IntKind.wrap .u32 x)))+(1:Int)),(0:Int))=(lpV x,0);rw[w32 h0 (by omega),w32 (x:=184483840+x) (by omega) (by omega),w32 (x:=184483840+x+1) (by omega) (by omega)];unfold lpV
 grind
theorem allO_len(o:origin_origin)(hg:Gd o.fabric)(hne:o.near.length≤1000):(allO o).length≤62184:=by
 have a1:=fil_len (carO o) (floodR o) 32;have a2:=fil_len (shB o) (segR o) o.fabric.Segments.length;have a3:=fil_len (shB o) (wholeR o) o.fabric.Segments.length;have a4:=fla_len (shB o) (fun s=>(sgD o.fabric s).BDs.map (partR o s)) 1000 o.fabric.Segments.length fun j hj=>by
  rw[List.length_map];exact(hg.seg _ (at_inD (α:=Segment) ⟨[],[]⟩ (i:=(j:Int)) (by omega) (by omega)).2).2.1
 have a5:=flat2_len o (useF o o.near);have a6:=useF_len o o.near;have a7:=fil_len (prefB o) (prefR o) 32;have:=hg.segs;unfold allO carL shL;simp only[List.length_append];omega
end Go.L
end
section
namespace Go.L
open Go.AM Go.Sort
theorem sameU_at(n:Nat)(l:List Int)(hn:l.length<n)(hl:l.length<100000):At (c_kit_Same_uint32.S n (l,l)) (fun r:Bool=>r=true):=by
 refine(?_ :AtG n (g_kit_Same_uint32 l l) _);unfold g_kit_Same_uint32;refine .skip (.op () rfl (.skip (.op () rfl (.skip (.br (fun h=>(by simp at h)) fun _=>.skip ?_)))))
 refine .loop (fun a:Int=>IdxI l (fun pre (_:Unit)=>True) (a,())) (fun a=>l.length - a.toNat) (Sum.elim (fun _:Unit=>False) fun _=>True) rfl (IdxI.start trivial) (by simp;omega) (fun a ha=>?_) (fun t ht=>?_)
 ·refine .skip (.op () rfl (.skip (.br (fun h=>?_) fun h=>.skip (.done rfl (ha.fin h)))))
  obtain⟨x,pre,h1,h2,h3,-,h4⟩:=ha.get h;refine .skip (.op x h1 (.skip (.op x h1 (.skip (.br (fun h=>(by simp at h)) fun _=>.skip (.done rfl (h4 hl () trivial)))))))
 ·cases t with
  |inl t=>exact ht.elim
  |inr t=>exact .skip (.done rfl rfl)
theorem sameP_at(n:Nat)(l:List Int)(hn:l.length<n)(hl:l.length<100000):At (c_kit_Same_IP.S n (l,l)) (fun r:Bool=>r=true):=by
 refine(?_ :AtG n (g_kit_Same_IP l l) _);unfold g_kit_Same_IP;refine .skip (.op () rfl (.skip (.op () rfl (.skip (.br (fun h=>(by simp at h)) fun _=>.skip ?_)))))
 refine .loop (fun a:Int=>IdxI l (fun pre (_:Unit)=>True) (a,())) (fun a=>l.length - a.toNat) (Sum.elim (fun _:Unit=>False) fun _=>True) rfl (IdxI.start trivial) (by simp;omega) (fun a ha=>?_) (fun t ht=>?_)
 ·refine .skip (.op () rfl (.skip (.br (fun h=>?_) fun h=>.skip (.done rfl (ha.fin h)))))
  obtain⟨x,pre,h1,h2,h3,-,h4⟩:=ha.get h;refine .skip (.op x h1 (.skip (.op x h1 (.skip (.br (fun h=>(by simp at h)) fun _=>.skip (.done rfl (h4 hl () trivial)))))))
 ·cases t with
  |inl t=>exact ht.elim
  |inr t=>exact .skip (.done rfl rfl)
def eqN(x y:NLRI):Bool:=((x.Kind==y.Kind)&&((x.RD==y.RD)&&((x.ESI.a0==y.ESI.a0)&&((x.ESI.a1==y.ESI.a1)&&((x.ESI.a2==y.ESI.a2)&&((x.ESI.a3==y.ESI.a3)&&((x.ESI.a4==y.ESI.a4)&&((x.ESI.a5==y.ESI.a5)&&((x.ESI.a6==y.ESI.a6)&&((x.ESI.a7==y.ESI.a7)&&((x.ESI.a8==y.ESI.a8)&&((x.ESI.a9==y.ESI.a9)&&((x.Tag==y.Tag)&&((x.MAC==y.MAC)&&((x.IP==y.IP)&&((x.HasIP==y.HasIP)&&((x.Prefix.IP==y.Prefix.IP)&&((x.Prefix.Len==y.Prefix.Len)&&((x.Gateway==y.Gateway)&&((x.Label==y.Label)&&((x.Label2==y.Label2)&&true)))))))))))))))))))))
theorem eqN_iff(x y:NLRI):eqN x y=true↔x=y:=by
 obtain⟨k,rd,⟨e0,e1,e2,e3,e4,e5,e6,e7,e8,e9⟩,tg,mc,ip,hi,⟨p1,p2⟩,gw,lb,l2⟩:=x;obtain⟨k',rd',⟨f0,f1,f2,f3,f4,f5,f6,f7,f8,f9⟩,tg',mc',ip',hi',⟨q1,q2⟩,gw',lb',l2'⟩:=y;simp[eqN,and_assoc]
theorem sameA_at(n:Nat)(hn:100000≤n){a:Attrs}(hc:a.Comms.length≤1000)(hp:a.Path.length≤1000)(hk:a.Clusters.length≤1000):At (c_kit_SameAttrs.S n (a,a)) (fun r:Bool=>r=true):=by
 refine(?_ :AtG n (g_kit_SameAttrs a a) _);unfold g_kit_SameAttrs;have no:∀{α:Type} [BEq α] [ReflBEq α] {x:α},¬(x==x)=false:=fun {α _ _ x} h=>by rw[beq_self_eq_true]at h;cases h
 refine .skip (.br (fun _=>?_) fun h=>absurd h no)
 refine .skip (.call _ (sameU_at n _ (by omega) (by omega)) fun r3 h3=>.skip (.br (fun _=>?_) fun h=>(by rw[h3]at h;cases h)))
 refine .skip (.br (fun _=>?_) fun h=>absurd h no)
 refine .skip (.br (fun _=>?_) fun h=>absurd h no)
 refine .skip (.br (fun _=>?_) fun h=>absurd h no)
 refine .skip (.br (fun _=>?_) fun h=>absurd h no)
 refine .skip (.br (fun _=>?_) fun h=>absurd h no)
 refine .skip (.br (fun _=>?_) fun h=>absurd h no)
 refine .skip (.br (fun _=>?_) fun h=>absurd h no)
 refine .skip (.call _ (sameP_at n _ (by omega) (by omega)) fun r4 h4=>.skip (.br (fun _=>?_) fun h=>(by rw[h4]at h;cases h)))
 refine .skip (.call _ (sameC_at n _ (by omega) (by omega)) fun r5 h5=>.skip (.br (fun _=>?_) fun h=>(by rw[h5]at h;cases h)))
 exact .skip (.done rfl (by simp))
theorem sameR_at(n:Nat)(hn:100000≤n){x y:Route}(hc:y.A.Comms.length≤1000)(hp:y.A.Path.length≤1000)(hk:y.A.Clusters.length≤1000)(hxy:x.N=y.N→x=y):At (c_kit_SameRoute.S n (x,y)) (fun r:Bool=>r=true↔x=y):=by
 refine(?_ :AtG n (g_kit_SameRoute x y) _);unfold g_kit_SameRoute;refine .skip (.br (fun h=>?_) fun h=>.skip (.done rfl ⟨fun h=>(by cases h),fun e=>(by grind)⟩))
 obtain rfl:=hxy ((eqN_iff _ _).1 h);refine .skip (.call _ (sameA_at n hn hc hp hk) fun r3 h3=>.skip (.br (fun _=>?_) fun h=>(by rw[h3]at h;cases h)))
 refine .skip (.br (fun _=>.skip (.done rfl ?_)) fun h=>(by simp at h))
 simp
theorem vf_ranged{f:Fabric}(hv:Vf f):Ranged f:=by
 have hl:=hv.bds;refine⟨fun b hb=>?_,fun h hh=>?_⟩
 ·obtain⟨i,hi,rfl⟩:=List.getElem_of_mem hb;have:=hv.bd i _ (List.getElem?_eq_getElem hi);rcases this.2.2.2.2 with⟨e,_⟩ |⟨e,_⟩<;>rw[e]<;>simp only<;>omega
 ·obtain⟨i,hi,rfl⟩:=List.getElem_of_mem hh;have:=hv.host i _ (List.getElem?_eq_getElem hi);have hl2:=hv.hosts;rcases this.2.2.2.2 with e |⟨b,hb,hg,e⟩
  ·rw[e];omega
  ·obtain⟨b',hb',_⟩:=at_in f.BDs _ this.2.1 this.2.2.1;have h2:=at?_nat f.BDs (f.Hosts[i]).BD.toNat;rw[Int.toNat_of_nonneg this.2.1,hb]at h2;have h3:=hv.bd _ b h2.symm;have:=this.2.2.1;rcases h3.2.2.2.2 with⟨_,g⟩ |⟨q,_⟩
   ·exact absurd g hg
   ·rw[e,q];simp only;omega
theorem refcheck_v(n:Nat)(hn:5000≤n)(f:Fabric)(hv:Vf f):At (c_ref22_Check.S n f) (fun(r:Int×ByteArray×Int)=>r.1=0):=by
 refine(At.eq (r:=checkS f) fun k=>ref_Check n hn f (vf_small hv) (vf_ranged hv) k).mono fun r hr=>?_
 rw[hr,vf_check hv]
theorem refvalid_v(n:Nat)(hn:5000≤n)(f:Fabric)(hv:Vf f):At (c_ref22_valid.S n f) (fun(b:Bool)=>b=true):=by
 refine(?_ :AtG n (g_ref22_valid f) _);unfold g_ref22_valid;refine .skip (.call _ (refcheck_v n hn f hv) fun r hr=>.skip (.done rfl ?_))
 rw[hr];rfl
theorem rwithin_at(n:Nat)(x hi:Int):At (c_ref22_within.S n (x,(0:Int),hi)) (fun r:Bool=>r=(decide (0≤x)&&decide (x≤hi))):=by
 refine(At.eq (r:= !out x 0 hi) fun k=>ref_within n x 0 hi k).mono fun r hr=>?_
 rw[hr];unfold out;grind
theorem resi2_at(n:Nat)(hn:5000≤n){f:Fabric}(hv:Vf f){s:Int}(h0:0≤s)(h1:s<(f.Segments.length:Int)):At (c_ref22_ESI.S n (f,s)) (fun e:V10 Int=>e=if 1<(sgD f s).Leaves.length then esV s else esi0):=by
 have hS:=hv.segments;have hsg:at? f.Segments s=some (sgD f s):=(at_inD (α:=Segment) ⟨[],[]⟩ h0 h1).1;have hm:At (c_ref22_Multihomed.S n (f,s)) (fun b:Bool=>b=decide (1<(sgD f s).Leaves.length)):=by
  refine(?_ :AtG n (g_ref22_Multihomed f s) _);refine .skip (.call _ (refvalid_v n hn f hv) fun r3 h3=>.skip (.br (fun _=>.skip (.op () rfl (.skip (.call _ (rwithin_at n s _) fun r4 h4=>.skip (.br (fun _=>.skip (.op _ hsg (.skip (.op () rfl (.skip (.done rfl ?_)))))) fun h=>?_))))) fun h=>(by rw[h3]at h;cases h)))
  ·grind
  ·grind [wrap_i64]
 have he:At (c_ref01_SegmentESI.S n s) (fun r:V10 Int×Int=>r.1=esV s):=by
  refine(?_ :AtG n (g_ref01_SegmentESI s) _);unfold g_ref01_SegmentESI;refine .skip (.br (fun h=>(by grind)) fun _=>.skip (.br (fun h=>(by grind)) fun _=>.skip (.done rfl ?_)))
  show(@V10.mk Int 3 0 0 0 0 0 0 0 0 _)=esV s;unfold esV;congr 1
  first
   | (rw[wrap_i64 (by omega) (by omega)];simp[IntKind.wrap,IntKind.bits,IntKind.signed];omega)
   | (simp[IntKind.wrap,IntKind.bits,IntKind.signed];omega)
 refine(?_ :AtG n (g_ref22_ESI f s) _);refine .skip (.call _ hm fun r3 h3=>.skip (.br (fun h=>.skip (.done rfl ?_)) fun h=>.skip (.call _ he fun r5 h5=>.skip (.done rfl ?_))))
 ·have h:=nbT h;rw[h3]at h;rw[if_neg (of_decide_eq_false h)];rfl
 grind
theorem rrd_at(n:Nat){ip x:Int}(h:inW ip)(x0:0≤x)(x1:x<65536):At (c_ref04_RD.S n (ip,x)) (fun(r:Int)=>r=rdS ip x):=by
 refine⟨_,?_,rfl⟩;obtain⟨h0,h1⟩:=h;show(g_ref04_RD ip x).run n=_;simp only[g_ref04_RD,G.run,tsOk,if_true];have e1:IntKind.wrap .u64 ip=ip:=wrap_u64_id h0 (by omega)
 have e2:IntKind.wrap .u64 x=x:=wrap_u64_id x0 (by omega)
 have e3:IntKind.wrap .u64 (ip*2 ^ (min (Int.toNat (16:Int)) (IntKind.bits .u64)))=ip*65536:=by
  show IntKind.wrap .u64 (ip*65536)=_;exact wrap_u64_id (by omega) (by omega)
 rw[e1,e2,e3,wrap_u64_id (x:=281474976710656+ip*65536) (by omega) (by omega),wrap_u64_id (by omega) (by omega)];rfl
theorem refloop_v(n:Nat)(hn:5000≤n){f:Fabric}(hv:Vf f){i:Int}(h0:0≤i)(h1:i<f.Leaves):At (c_ref22_Loopback.S n (f,i)) (fun(r:Int)=>r=lpV i):=by
 have hl:=hv.leaves;have hs:=hv.spines;refine(?_ :AtG n (g_ref22_Loopback f i) _);refine .skip (.call _ (refvalid_v n hn f hv) fun r3 h3=>.skip (.br (fun h=>(by rw[h3]at h;cases h)) fun _=>.skip (.call _ (rwithin_at n i _) fun r5 h5=>.skip (.br (fun h=>?_) fun _=>.skip (.call _ (rlp_at n i h0 (by omega)) fun r7 h7=>.skip (.done rfl (by rw[h7])))))))
 grind [wrap_i64]
def bdrV(f:Fabric)(self b:Int):Int:=if 0≤b∧b<(f.BDs.length:Int)then rdS (lpV self) (1+b)else 0
theorem bdrd_at(n:Nat)(hn:5000≤n){f:Fabric}(hv:Vf f){self:Int}(h0:0≤self)(h1:self<f.Leaves)(b:Int):At (c_ref22_BDRD.S n (f,self,b)) (fun r:Int=>r=bdrV f self b):=by
 have hB:=hv.bds;have hL:=hv.leaves;refine(?_ :AtG n (g_ref22_BDRD f self b) _);refine .skip (.op () rfl (.skip (.call _ (rwithin_at n b _) fun r4 h4=>.skip (.br (fun h=>.skip (.done rfl ?_)) fun h=>?_))))
 ·have h:=nbT h;rw[h4,wrap_i64 (by omega) (by omega)]at h
  unfold bdrV;grind
 ·have h:=nbF h;rw[h4,wrap_i64 (by omega) (by omega)]at h
  simp only[Bool.and_eq_true,decide_eq_true_eq]at h;have hr:At (c_ref22_rd.S n (f,self,1+b)) (fun r:Int=>r=rdS (lpV self) (1+b)):=by
   refine(?_ :AtG n (g_ref22_rd f self (1+b)) _);refine .skip (.call _ (refvalid_v n hn f hv) fun r3 h3=>.skip (.br (fun h=>(by rw[h3]at h;cases h)) fun _=>.skip (.call _ (rwithin_at n self _) fun r6 h6=>.skip (.br (fun h=>?_) fun _=>.skip (.call _ (refloop_v n hn hv h0 h1) fun r8 h8=>.skip (.call _ (?_ :At _ (fun r:Int=>r=rdS (lpV self) (1+b))) fun r9 h9=>.skip (.done rfl h9)))))))
   ·grind [wrap_i64]
   ·rw[h8,wrap_u16_id (by omega) (by omega)]
    exact rrd_at n (by unfold inW lpV;omega) (by omega) (by omega)
  refine .skip (.call _ (by rw[wrap_i64 (x:=1+b) (by omega) (by omega)];exact hr) fun r6 h6=>.skip (.done rfl ?_))
  rw[h6];unfold bdrV;rw[if_pos (by omega)]
section
variable {f:Fabric} (hv:Vf f) {self:Int} (hs:0≤self∧self<f.Leaves) {up:List Bool} (hu:up.length=f.Segments.length) {near:List Near} (claims:List Claim) (hnd:near.Pairwise fun a b=>plN a≠plN b) {port:Int} (hp:0≤port∧port<(f.Segments.length:Int))
include hu hp
include hv hs hnd
end
end Go.L
end
