/- Parts put together. No conditions. -/
import Derived.Test.YtdbkafoghoenoaaGreatDoorWz
import Derived.Test.YtdbkafoghoenoaaGreatDoorPc
import Derived.Test.YtdbkafoghoenoaaGreatDoorPr
import Derived.Test.YtdbkafoghoenoaaGreatDoorPa
import Derived.Test.YtdbkafoghoenoaaGreatDoorPl
import Derived.Test.YtdbkafoghoenoaaGreatDoorPv
import Derived.Test.YtdbkafoghoenoaaGreatDoorWv
set_option linter.unusedSectionVars false
set_option linter.unusedSimpArgs false
set_option linter.unusedVariables false
set_option maxRecDepth 100000
section
namespace Go.L
open Go.AM Go.Sort
theorem wrap_u64(x:Int):IntKind.wrap .u64 x=x % 18446744073709551616:=by simp[IntKind.wrap,IntKind.signed,IntKind.bits]
theorem wrap_u64_id{x:Int}(h0:0≤x)(h1:x<18446744073709551616):IntKind.wrap .u64 x=x:=by rw[wrap_u64];omega
theorem wrap_u16(x:Int):IntKind.wrap .u16 x=x % 65536:=by simp[IntKind.wrap,IntKind.signed,IntKind.bits]
theorem wrap_u16_id{x:Int}(h0:0≤x)(h1:x<65536):IntKind.wrap .u16 x=x:=by rw[wrap_u16];omega
theorem or_add64{a b:Int}(a0:0≤a)(b0:0≤b)(h:a+b<18446744073709551616)(ho:a.toNat|||b.toNat=a.toNat+b.toNat):
 IntKind.wrap .u64 (((BitVec.toNat (BitVec.ofInt 64 a|||BitVec.ofInt 64 b)):Nat):Int)=a+b:=by
 rw[BitVec.toNat_or,BitVec.toNat_ofInt,BitVec.toNat_ofInt];have ha:a % ((2:Nat) ^ 64:Nat)=a:=Int.emod_eq_of_lt a0 (by omega)
 have hb:b % ((2:Nat) ^ 64:Nat)=b:=Int.emod_eq_of_lt b0 (by omega)
 rw[ha,hb,ho];rw[wrap_u64_id (by omega) (by omega)]
 omega
def rdS(ip x:Int):Int:=281474976710656+ip*65536+x
theorem rd_or{ip x:Int}(h0:0≤ip)(h1:ip<4294967296)(x0:0≤x)(x1:x<65536):
 IntKind.wrap .u64 (((BitVec.toNat (BitVec.ofInt 64 (IntKind.wrap .u64 (((BitVec.toNat (BitVec.ofInt 64 (281474976710656:Int)|||BitVec.ofInt 64 (ip*65536))):Nat):Int))|||BitVec.ofInt 64 x)):Nat):Int)=rdS ip x:=by
 obtain⟨i,rfl⟩:∃i:Nat,ip=(i:Int):=⟨ip.toNat,by omega⟩
 obtain⟨y,rfl⟩:∃y:Nat,x=(y:Int):=⟨x.toNat,by omega⟩
 have e1:IntKind.wrap .u64 (((BitVec.toNat (BitVec.ofInt 64 (281474976710656:Int)|||BitVec.ofInt 64 ((i:Int)*65536))):Nat):Int)=281474976710656+(i:Int)*65536:=by
  refine or_add64 (by omega) (by omega) (by omega) ?_
  have a:((281474976710656:Int).toNat)=2 ^ 48*1:=by decide
  have b:((i:Int)*65536).toNat=i*65536:=by omega
  rw[a,b];exact(Nat.two_pow_add_eq_or_of_lt (i:=48) (by omega) 1).symm
 rw[e1];rw[or_add64 (by omega) (by omega) (by omega)]
 ·simp[rdS]
 ·have a:(281474976710656+(i:Int)*65536).toNat=2 ^ 16*(4294967296+i):=by omega
  have b:((y:Int)).toNat=y:=by omega
  rw[a,b];exact(Nat.two_pow_add_eq_or_of_lt (i:=16) (by omega) _).symm
theorem nrd_at(n:Nat){ip x:Int}(h:inW ip)(x0:0≤x)(x1:x<65536):At (c_nlri_RD.S n (ip,x)) (fun(r:Int)=>r=rdS ip x):=by
 refine⟨_,?_,rfl⟩;obtain⟨h0,h1⟩:=h;show(g_nlri_RD ip x).run n=_;simp only[g_nlri_RD,G.run,tsOk,if_true];rw[← rd_or h0 h1 x0 x1];have e1:IntKind.wrap .u64 ip=ip:=wrap_u64_id h0 (by omega)
 have e2:IntKind.wrap .u64 x=x:=wrap_u64_id x0 (by omega)
 have e3:IntKind.wrap .u64 (ip*2 ^ (min (Int.toNat (16:Int)) (IntKind.bits .u64)))=ip*65536:=by
  show IntKind.wrap .u64 (ip*65536)=_;exact wrap_u64_id (by omega) (by omega)
 rw[e1,e2,e3];rfl
def lpV(x:Int):Int:=184483841+x
def esV(s:Int):V10 Int:= @V10.mk Int 3 0 0 0 0 0 0 0 0 (s+1)
def rmV(x:Int):Int:=2199023255552+x
theorem lp_at(n:Nat)(x:Int)(h0:0≤x)(h1:x<32):At (c_addr_Loopback.S n x) (fun(r:Int×Int)=>r.1=lpV x):=by
 refine(?_ :AtG n (g_addr_Loopback x) _);refine .skip (.br (fun h=>(by grind)) fun _=>.skip (.br (fun h=>(by grind)) fun _=>.skip (.done rfl ?_)))
 show IntKind.wrap .u32 ((IntKind.wrap .u32 ((184483840:Int)+(IntKind.wrap .u32 x)))+(1:Int))=lpV x;rw[w32 h0 (by omega),w32 (x:=184483840+x) (by omega) (by omega),w32 (by omega) (by omega)];unfold lpV;omega
theorem rm_at(n:Nat)(x:Int)(h0:0≤x)(h1:x<32):At (c_addr_RouterMAC.S n x) (fun(r:Int×Int)=>r.1=rmV x):=by
 refine(?_ :AtG n (g_addr_RouterMAC x) _);refine .skip (.br (fun h=>(by grind)) fun _=>.skip (.br (fun h=>(by grind)) fun _=>.skip (.done rfl ?_)))
 show IntKind.wrap .u64 ((2199023255552:Int)+(IntKind.wrap .u64 x))=rmV x;rw[wrap_u64_id h0 (by omega),wrap_u64_id (by omega) (by omega)];rfl
theorem es_at(n:Nat)(s:Int)(h0:0≤s)(h1:s<64):At (c_addr_SegmentESI.S n s) (fun(r:V10 Int×Int)=>r.1=esV s):=by
 refine(?_ :AtG n (g_addr_SegmentESI s) _);refine .skip (.br (fun h=>(by grind)) fun _=>.skip (.br (fun h=>(by grind)) fun _=>.skip (.done rfl ?_)))
 show(@V10.mk Int 3 0 0 0 0 0 0 0 0 (IntKind.wrap .u8 (IntKind.wrap .i64 (s+1))))=esV s;have e:IntKind.wrap .u8 (IntKind.wrap .i64 (s+1))=s+1:=by
  rw[wrap_i64 (by omega) (by omega)];simp[IntKind.wrap,IntKind.bits,IntKind.signed];omega
 rw[e];rfl
theorem imp_at(n:Nat)(s:Int):At (c_addr_Import.S n (esV s)) (fun(r:Int)=>r=0):=⟨(0:Int),by kernel_rfl,rfl⟩
def sgD(f:Fabric)(s:Int):Segment:=(at? f.Segments s).getD ⟨[],[]⟩
def bdD(f:Fabric)(b:Int):BD:=(at? f.BDs b).getD ⟨0,0,0,⟨0,0⟩,0⟩
def tnD(f:Fabric)(t:Int):Tenant:=(at? f.Tenants t).getD ⟨0,0⟩
def elI(l:List Int)(x:Int):Bool:=l.any fun y=>x==y
theorem elI_iff{l:List Int}{x:Int}:elI l x=true↔x∈l:=by
 unfold elI;grind
theorem cont_x(n:Nat)(hn:5000≤n)(l:List Int)(x:Int)(hl:l.length≤4000):At (c_slices_Contains_int_int.S n (l,x)) (fun(b:Bool)=>b=elI l x):=
 At.eq (r:=elI l x) fun k=>contains_int n l x (by omega) hl k
structure Gd(f:Fabric):Prop where
 leaves:f.Leaves≤32
 elect:0≤f.Elect∧f.Elect≤31
 segs:f.Segments.length≤60
 bds:f.BDs.length≤32
 seg:∀s∈f.Segments,s.Leaves.length≤1000∧s.BDs.length≤1000∧∀b∈s.BDs,0≤b∧b<(f.BDs.length:Int)
 bd:∀d∈f.BDs,inW d.Target∧inW d.VNI∧(d.Gateway≠0→0≤d.Tenant∧d.Tenant<1000∧d.Tenant<(f.Tenants.length:Int))
 ten:∀t∈f.Tenants,inW t.Target∧inW t.VNI
theorem at_inD{α:Type}{l:List α}{i:Int}(d:α)(h0:0≤i)(h1:i<(l.length:Int)):at? l i=some ((at? l i).getD d)∧(at? l i).getD d∈l:=by
 obtain⟨x,h,hm⟩:=at_in l i h0 h1;rw[h];exact⟨rfl,hm⟩
section
variable (o:origin_origin)
noncomputable section
def liveO(s:Int):Bool:=decide (0≤s)&&(decide (s<(o.up.length:Int))&&((at? o.up s).getD false&&elI (sgD o.fabric s).Leaves o.self))
def carO(b:Int):Bool:=o.fabric.Segments.any fun s=>elI s.Leaves o.self&&elI s.BDs b
def idx(n:Nat):List Int:=(List.range n).map Int.ofNat
def carL:List Int:=(idx 32).filter (carO o)
def shB(s:Int):Bool:=decide (1<(sgD o.fabric s).Leaves.length)&&liveO o s
def shL:List Int:=(idx o.fabric.Segments.length).filter (shB o)
def rtS(n:NLRI)(l:List (V8 Int)):Route:=⟨n,⟨0,[],o.address,false,0,true,100,false,0,[],sortU l,⟨0,0,0,0⟩⟩,0,false⟩
def taC(t:Int):V8 Int:=madeS 0 2 (65000*4294967296+t)
def enC:V8 Int:=madeS 3 12 8
def esO(s:Int):V10 Int:=if(sgD o.fabric s).Leaves.length<2 then esi0 else esV s
def floodR(b:Int):Route:=
 setT (rtS o ⟨3,rdS o.address (1+b),esi0,0,0,o.address,true,pf0,0,0,0⟩ [enC,taC (bdD o.fabric b).Target]) (if o.fabric.Trees then⟨3,(bdD o.fabric b).VNI,0,4009754625+b⟩else⟨6,(bdD o.fabric b).VNI,0,0⟩)
def segR(s:Int):Route:=
 rtS o ⟨4,rdS o.address 0,esV s,0,0,o.address,true,pf0,0,0,0⟩ [enC,madeS 6 2 0,madeS 6 6 (o.fabric.Elect*1099511627776+(32767 - o.self))]
def wholeR(s:Int):Route:=
 rtS o ⟨1,rdS o.address 0,esV s,4294967295,0,0,false,pf0,0,0,0⟩ ([enC,madeS 6 1 (s+1)]++(sgD o.fabric s).BDs.map fun b=>taC (bdD o.fabric b).Target)
def partR(s b:Int):Route:=
 rtS o ⟨1,rdS o.address (1+b),esV s,0,0,0,false,pf0,0,(bdD o.fabric b).VNI,0⟩ [enC,taC (bdD o.fabric b).Target]
def seqO(n:Near):Int:=((o.claims.find? fun c=>c.BD==n.BD&&c.MAC==n.MAC).map (·.Seq)).getD 0
def mobL(q:Int):List (V8 Int):=if q=0 then[]else[madeS 6 0 q]
def macC(n:Near):List (V8 Int):=[enC,taC (bdD o.fabric n.BD).Target]++mobL (seqO o n)
def macR(n:Near):Route:=
 rtS o ⟨2,rdS o.address (1+n.BD),esO o n.Segment,0,n.MAC,0,false,pf0,0,(bdD o.fabric n.BD).VNI,0⟩ (macC o n)
def tnB(n:Near):Tenant:=tnD o.fabric (bdD o.fabric n.BD).Tenant
def macI(n:Near):Route:=
 rtS o ⟨2,rdS o.address (1+n.BD),esO o n.Segment,0,n.MAC,n.IP,true,pf0,0,(bdD o.fabric n.BD).VNI,(tnB o n).VNI⟩ (macC o n++[taC (tnB o n).Target,madeS 6 3 o.router])
def addrR(n:Near):List Route:=if n.HasIP=true∧(bdD o.fabric n.BD).Gateway≠0 then[macR o n,macI o n]else[macR o n]
def okO(n:Near):Bool:=liveO o n.Segment&&(elI (sgD o.fabric n.Segment).BDs n.BD&&(!(n.MAC==0)&&(decide (n.MAC≤281474976710655)&&(!castM n.MAC&&(n.HasIP||n.IP==0)))))
def useF(l:List Near):List Near:=l.foldl (fun acc n=>if okO o n=true∧¬(n.BD,n.MAC)∈acc.map (fun m=>(m.BD,m.MAC))then acc++[n]else acc) []
def prefR(b:Int):Route:=
 rtS o ⟨5,rdS o.address (1001+(bdD o.fabric b).Tenant),esi0,0,0,0,false,(bdD o.fabric b).Subnet,0,(tnD o.fabric (bdD o.fabric b).Tenant).VNI,0⟩ [enC,taC (tnD o.fabric (bdD o.fabric b).Tenant).Target,madeS 6 3 o.router]
def prefB(b:Int):Bool:=carO o b&& !((bdD o.fabric b).Gateway==0)
def allO:List Route:=(carL o).map (floodR o)++(shL o).map (segR o)++(shL o).map (wholeR o)++(shL o).flatMap (fun s=>(sgD o.fabric s).BDs.map (partR o s))++(useF o o.near).flatMap (addrR o)++((idx 32).filter (prefB o)).map (prefR o)
end
end
theorem idx_succ(i:Nat):idx (i+1)=idx i++[(i:Int)]:=by unfold idx;rw[List.range_succ];simp
theorem mem_idx{n:Nat}{i:Int}:i∈idx n↔0≤i∧i<(n:Int):=by
 unfold idx;simp only[List.mem_map,List.mem_range];exact⟨fun⟨a,h,e⟩=>by subst e;simp;omega,fun⟨h0,h1⟩=>⟨i.toNat,by omega,by simp;omega⟩⟩
def NumI{σ:Type}(N:Nat)(P:Nat→σ→Prop)(a:Int×σ):Prop:=∃i:Nat,a.1=(i:Int)∧i≤N∧P i a.2
theorem NumI.start{σ:Type}{N:Nat}{P:Nat→σ→Prop}{s:σ}(h:P 0 s):NumI N P ((0:Int),s):=⟨0,rfl,Nat.zero_le _,h⟩
theorem NumI.get{σ:Type}{N:Nat}{P:Nat→σ→Prop}{a:Int×σ}(h:NumI N P a)(hlt:a.1<(N:Int)):
 ∃i:Nat,a.1=(i:Int)∧i<N∧P i a.2∧(N<100000→∀s',P (i+1) s'→NumI N P (inc a.1,s')∧N - (inc a.1).toNat<N - a.1.toNat):=by
 obtain⟨i,hi,hil,hp⟩:=h;refine⟨i,hi,by omega,hp,fun hl s' hs=>?_⟩
 rw[hi,show inc (i:Int)=((i+1:Nat):Int)from wrap_nat (by omega)]
 exact⟨⟨i+1,rfl,by omega,hs⟩,by simp only[Int.toNat_natCast];omega⟩
theorem NumI.fin{σ:Type}{N:Nat}{P:Nat→σ→Prop}{a:Int×σ}(h:NumI N P a)(hge:¬a.1<(N:Int)):P N a.2:=by
 obtain⟨i,hi,hil,hp⟩:=h;grind
section
variable {o:origin_origin} (hg:Gd o.fabric) (ha:inW o.address)
include hg ha
theorem route_at(n:Nat)(nl:NLRI)(l:List (V8 Int))(len:Nat)(he:len=l.length)(hl:l.length≤3000)(hn:5000≤n):At (c_origin_origin_route_d.S n (l,o,nl,len)) (fun(r:Route)=>r=rtS o nl l):=by
 refine⟨_,?_,rfl⟩;show(if len=l.length then(g_origin_origin_route o nl l).run n else none)=_
 rw[if_pos he];simp only[g_origin_origin_route,G.run];rw[commSort_v n l (by omega) (by omega)]
 rfl
theorem seg_at{s:Int}(h0:0≤s)(h1:s<(o.fabric.Segments.length:Int)):at? o.fabric.Segments s=some (sgD o.fabric s)∧sgD o.fabric s∈o.fabric.Segments:=at_inD _ h0 h1
theorem bd_at{b:Int}(h0:0≤b)(h1:b<(o.fabric.BDs.length:Int)):at? o.fabric.BDs b=some (bdD o.fabric b)∧bdD o.fabric b∈o.fabric.BDs:=at_inD _ h0 h1
theorem domRD_at(n:Nat){b:Int}(h0:0≤b)(h1:b<(o.fabric.BDs.length:Int)):At (c_origin_origin_domainRD.S n (o,b)) (fun(r:Int)=>r=rdS o.address (1+b)):=by
 have:=hg.bds;refine(?_ :AtG n (g_origin_origin_domainRD o b) _);refine .skip (.call _ (?_ :At _ (fun(r:Int)=>r=rdS o.address (1+b))) fun r hr=>.skip (.done rfl hr))
 rw[wrap_i64 (by omega) (by omega),wrap_u16_id (by omega) (by omega)]
 exact nrd_at n ha (by omega) (by omega)
theorem live_at(n:Nat)(hn:5000≤n)(hu:o.up.length=o.fabric.Segments.length)(s:Int):At (c_origin_origin_live.S n (o,s)) (fun(r:Bool)=>r=liveO o s):=by
 refine(?_ :AtG n (g_origin_origin_live o s) _);unfold liveO;refine .skip (.br (fun h0=>.skip (.op () rfl (.skip (.br (fun h1=>?_) fun h1=>.skip (.done rfl ?_))))) fun h0=>.skip (.done rfl ?_))
 ·simp only[decide_eq_true_eq]at h0 h1;obtain⟨u,hu1,hu2⟩:=at_in o.up s h0 h1;obtain⟨hs,hm⟩:=seg_at hg ha (s:=s) h0 (by omega)
  refine .skip (.op u hu1 (.skip (.br (fun h2=>.skip (.op _ hs (.skip (.call _ (cont_x n hn _ _ (by have:=(hg.seg _ hm).1;omega)) fun r hr=>.skip (.done rfl ?_))))) fun h2=>.skip (.done rfl ?_))))
  ·rw[hr,hu1,h2];simp[h0,h1]
  ·rw[hu1,h2];simp
 ·grind
 grind
theorem oesi_at(n:Nat){s:Int}(h0:0≤s)(h1:s<(o.fabric.Segments.length:Int)):At (c_origin_origin_esi.S n (o,s)) (fun(r:V10 Int)=>r=esO o s):=by
 have:=hg.segs;obtain⟨hs,hm⟩:=seg_at hg ha h0 h1;refine(?_ :AtG n (g_origin_origin_esi o s) _);unfold esO;refine .skip (.op _ hs (.skip (.op () rfl (.skip (.br (fun h=>.skip (.done rfl ?_)) fun h=>.skip (.call _ (es_at n s h0 (by omega)) fun r hr=>.skip (.done rfl ?_)))))))
 ·simp only[decide_eq_true_eq]at h;rw[if_pos (by omega)];rfl
 grind
end
end Go.L
end
section
namespace Go.L
open Go.AM Go.Sort
theorem nbT{b:Bool}(h:(!b)=true):b=false:=by cases b<;>simp_all
theorem nbF{b:Bool}(h:(!b)=false):b=true:=by cases b<;>simp_all
theorem roomyR{l:List Route}{x:Route}(h:l.length<200000):roomy (l.length+[x].length) 224=true:=by simp[roomy];omega
theorem ifU{c:Prop}[Decidable c](h:c):(if c then some ()else none)=some ():=if_pos h
def carP(self:Int)(l:List Segment)(k:Int):Bool:=l.any fun s=>elI s.Leaves self&&elI s.BDs k
def SetP(self:Int)(l:List Segment)(m:List Int)(t:List Bool):Prop:=t.length=32∧∀k:Nat,k<32→gD t false k=(carP self l (k:Int)||elI m (k:Int))
theorem elI_nil(x:Int):elI [] x=false:=rfl
theorem SetP.start(self:Int):SetP self [] [] (List.replicate 32 false):=by
 refine⟨by simp,fun k hk=>?_⟩
 show(List.replicate 32 false).getD k false=false;rw[List.getD_eq_getElem?_getD,List.getElem?_replicate,if_pos hk];rfl
theorem carP_snoc(self:Int)(l:List Segment)(x:Segment)(k:Int):carP self (l++[x]) k=(carP self l k||(elI x.Leaves self&&elI x.BDs k)):=by
 unfold carP;rw[List.any_append,List.any_cons,List.any_nil,Bool.or_false]
theorem SetP.snoc{self:Int}{l:List Segment}{t:List Bool}{x:Segment}(h:SetP self l x.BDs t)(hx:elI x.Leaves self=true):SetP self (l++[x]) [] t:=by
 refine⟨h.1,fun k hk=>?_⟩
 simp only[h.2 k hk,carP_snoc,hx,elI_nil,Bool.true_and,Bool.or_false]
theorem SetP.skip{self:Int}{l:List Segment}{t:List Bool}{x:Segment}(h:SetP self l [] t)(hx:elI x.Leaves self=false):SetP self (l++[x]) [] t:=by
 refine⟨h.1,fun k hk=>?_⟩
 simp only[h.2 k hk,carP_snoc,hx,elI_nil,Bool.false_and,Bool.or_false]
theorem SetP.put{self:Int}{l:List Segment}{m:List Int}{t:List Bool}{b:Int}(h:SetP self l m t)(h0:0≤b)(h1:b<32):SetP self l (m++[b]) (List.set t (0+b.toNat*1) true):=by
 refine⟨by rw[List.length_set];exact h.1,fun k hk=>?_⟩
 have:=h.2 k hk;have hl:=h.1;unfold gD at*;simp only[List.getD_eq_getElem?_getD]at*;rw[List.getElem?_set];by_cases e:(k:Int)=b
 ·have e2:0+b.toNat*1=k:=by omega
  rw[if_pos e2,if_pos (by omega)]
  simp[elI,e]
 ·rw[if_neg (by omega),this]
  have:elI (m++[b]) (k:Int)=elI m (k:Int):=by
   unfold elI;rw[List.any_append];have:((k:Int)==b)=false:=by simpa using e
   simp[this]
  rw[this]
theorem fil_succ{β:Type}(p:Int→Bool)(F:Int→β)(i:Nat):((idx (i+1)).filter p).map F=((idx i).filter p).map F++(if p (i:Int)=true then[F (i:Int)]else[]):=by
 rw[idx_succ,List.filter_append,List.map_append];congr 1;by_cases h:p (i:Int)=true
 ·rw[if_pos h];simp[h]
 ·rw[if_neg h];simp[h]
theorem fla_succ{β:Type}(p:Int→Bool)(F:Int→List β)(i:Nat):((idx (i+1)).filter p).flatMap F=((idx i).filter p).flatMap F++(if p (i:Int)=true then F (i:Int)else[]):=by
 rw[idx_succ,List.filter_append,List.flatMap_append];congr 1;by_cases h:p (i:Int)=true
 ·rw[if_pos h];simp[h]
 ·rw[if_neg h];simp[h]
theorem fil_len{β:Type}(p:Int→Bool)(F:Int→β)(i:Nat):(((idx i).filter p).map F).length≤i:=by
 rw[List.length_map];refine Nat.le_trans (List.length_filter_le _ _) ?_;simp[idx]
theorem fla_len{β:Type}(p:Int→Bool)(F:Int→List β)(K:Nat)(i:Nat)(h:∀j:Nat,j<i→(F (j:Int)).length≤K):(((idx i).filter p).flatMap F).length≤i*K:=by
 induction i with
 |zero=>simp[idx]
 |succ i ih=>
  rw[fla_succ,List.length_append,Nat.add_mul,Nat.one_mul];have:=ih fun j hj=>h j (by omega)
  have h2:=h i (by omega)
  refine Nat.add_le_add this ?_;split
  ·exact h2
  ·simp
theorem eqP_iff(a b:origin_place):eqP a b=true↔a=b:=by
 cases a;cases b;simp[eqP]
instance decPlace:DecidableEq origin_place:=fun a b=>decidable_of_iff (eqP a b=true) (eqP_iff a b)
theorem eqP_d(a b:origin_place):eqP a b=decide (a=b):=by
 cases hb:eqP a b with
 |true=>exact(decide_eq_true ((eqP_iff a b).1 hb)).symm
 |false=>exact(decide_eq_false fun h=>by rw[(eqP_iff a b).2 h]at hb;cases hb).symm
def plN(n:Near):origin_place:=⟨n.BD,n.MAC⟩
theorem useF_snoc(o:origin_origin)(pre:List Near)(x:Near):useF o (pre++[x])=if okO o x=true∧¬plN x∈(useF o pre).map plN then useF o pre++[x]else useF o pre:=by
 unfold useF;rw[List.foldl_append];simp only[List.foldl_cons,List.foldl_nil];congr 1;simp only[List.mem_map,plN,Prod.mk.injEq,origin_place.mk.injEq]
theorem useF_len(o:origin_origin)(pre:List Near):(useF o pre).length≤pre.length:=by
 have:∀(l:List Near) (acc:List Near),(l.foldl (fun acc n=>if okO o n=true∧¬(n.BD,n.MAC)∈acc.map (fun m=>(m.BD,m.MAC))then acc++[n]else acc) acc).length≤acc.length+l.length:=by
  intro l;induction l with
  |nil=>intro acc;simp
  |cons x l ih=>
   intro acc;simp only[List.foldl_cons,List.length_cons];refine Nat.le_trans (ih _) ?_;split
   ·simp;omega
   ·omega
 have h:=this pre [];simpa[useF]using h
theorem flat2_len(o:origin_origin)(l:List Near):(l.flatMap (addrR o)).length≤2*l.length:=by
 induction l with
 |nil=>simp
 |cons x l ih=>
  rw[List.flatMap_cons,List.length_append,List.length_cons];have:(addrR o x).length≤2:=by unfold addrR;split<;>simp
  omega
def seqL(l:List Claim)(q:origin_place):Option Int:=(l.find? fun c=>c.BD==q.bd&&c.MAC==q.mac).map (·.Seq)
theorem seqL_cons(c:Claim)(l:List Claim)(q:origin_place):seqL (c::l) q=if q=⟨c.BD,c.MAC⟩then some c.Seq else seqL l q:=by
 unfold seqL;rw[List.find?_cons];by_cases h:q=⟨c.BD,c.MAC⟩
 ·subst h;simp
 ·have:(c.BD==q.bd&&c.MAC==q.mac)=false:=by
   cases q;simp only[origin_place.mk.injEq,not_and]at h;cases hb:(c.BD==_&&c.MAC==_)
   ·rfl
   ·simp only[Bool.and_eq_true,beq_iff_eq]at hb;exact absurd hb.2.symm (h hb.1.symm)
  rw[this,if_neg h]
theorem mac0{o:origin_origin}{x:Near}(h:seqO o x=0):macC o x=[enC,taC (bdD o.fabric x.BD).Target]:=by
 unfold macC mobL;rw[if_pos h];rfl
theorem mac1{o:origin_origin}{x:Near}(h:¬seqO o x=0):macC o x=[enC,taC (bdD o.fabric x.BD).Target,madeS 6 0 (seqO o x)]:=by
 unfold macC mobL;rw[if_neg h];rfl
theorem addr1{o:origin_origin}{x:Near}(h:¬(x.HasIP=true∧(bdD o.fabric x.BD).Gateway≠0)):addrR o x=[macR o x]:=if_neg h
theorem addr2{o:origin_origin}{x:Near}(h:x.HasIP=true∧(bdD o.fabric x.BD).Gateway≠0):addrR o x=[macR o x,macI o x]:=if_pos h
theorem seqO_rng{o:origin_origin}(hseq:∀c∈o.claims,0≤c.Seq∧c.Seq<4294967296)(x:Near):0≤seqO o x∧seqO o x<4294967296:=by
 unfold seqO;cases h:o.claims.find? fun c=>c.BD==x.BD&&c.MAC==x.MAC with
 |none=>simp
 |some c=>exact hseq c (List.mem_of_find?_eq_some h)
section
variable {o:origin_origin} (hg:Gd o.fabric) (ha:inW o.address) (hu:o.up.length=o.fabric.Segments.length) (hs:0≤o.self∧o.self<32) (hr:0≤o.router∧o.router<281474976710656)
 (hne:o.near.length≤1000) (hcl:o.claims.length≤1000) (hseq:∀c∈o.claims,0≤c.Seq∧c.Seq<4294967296)
include hg
theorem car_bd{b:Int}(h:carO o b=true):0≤b∧b<(o.fabric.BDs.length:Int):=by
 unfold carO at h;rw[List.any_eq_true]at h;obtain⟨s,hs,h⟩:=h;simp only[Bool.and_eq_true]at h;exact(hg.seg s hs).2.2 b (elI_iff.1 h.2)
include ha hu hs hr hne hcl hseq
theorem gOr_at(n:Nat)(hn:5000≤n)(res:List Route)(hres:isortR (allO o)=some res):At ((gOr o).run n) (fun(r:List Route)=>r=res):=by
 have hsl:=hg.segs;have hbl:=hg.bds;refine(?_ :AtG n (gOr o) _);unfold gOr
 repeat first |refine .skip ?_ |refine .inl ?_ |refine .tidy rfl ?_ |refine .unroll ?_
 refine .loop (fun a:Int×List Bool=>IdxI o.fabric.Segments (fun pre t=>SetP o.self pre [] t) a) (fun a=>o.fabric.Segments.length - a.1.toNat) (fun t:List Bool=>SetP o.self o.fabric.Segments [] t) rfl (IdxI.start (SetP.start _)) (by simp;omega) (fun a hI=>?_) (fun(t58:List Bool) ht58=>?_)
 ·refine .skip (.br (fun h=>?_) fun h=>.skip (.done rfl (hI.fin h)))
  obtain⟨x,pre,h1,h2,h3,-,h4⟩:=hI.get h;have hx:=hg.seg x h2;refine .skip (.op x h1 (.skip (.call _ (cont_x n hn x.Leaves o.self (by omega)) fun r45 h45=>.skip (.br (fun h=>.skip (.done rfl (h4 (by omega) _ (h3.skip (by rw[← h45];exact nbT h))))) fun h=>.skip (.op () rfl (.skip ?_))))))
  refine .loop (fun b:Int×List Bool=>IdxI x.BDs (fun pre2 t=>SetP o.self pre pre2 t) b) (fun b=>x.BDs.length - b.1.toNat) (fun t:List Bool=>SetP o.self pre x.BDs t) rfl (IdxI.start h3) (by simp;omega) (fun b hJ=>?_) (fun t55 ht55=>.skip (.done rfl (h4 (by omega) _ (ht55.snoc (by rw[← h45];exact nbF h)))))
  refine .skip (.br (fun h=>?_) fun h=>.skip (.done rfl (hJ.fin h)))
  obtain⟨y,pre2,j1,j2,j3,-,j4⟩:=hJ.get h;have hy:=hx.2.2 y j2;refine .skip (.op y j1 (.skip (.op () (ifU ⟨hy.1,by omega⟩) (.op () (ifU (by rw[j3.1];omega)) (.skip (.done rfl (j4 (by omega) _ (j3.put hy.1 (by omega)))))))))
 have hcar:∀i:Nat,i<32→gD t58 false i=carO o (i:Int):=fun i hi=>by
  rw[ht58.2 i hi];simp[elI,carO,carP]
 refine .op () (ifU ht58.1) (.skip ?_);refine .loop (fun a:Int×List Route=>NumI 32 (fun i l=>l=((idx i).filter (carO o)).map (floodR o)) a) (fun a=>32 - a.1.toNat) (fun t:List Route=>t=(carL o).map (floodR o)) rfl (NumI.start (by simp[idx])) (by simp;omega) (fun a hI=>?_) (fun(t95:List Route) ht95=>?_)
 ·refine .skip (.br (fun h=>?_) fun h=>.skip (.done rfl (hI.fin (by simp only[decide_eq_false_iff_not]at h;omega))))
  obtain⟨i,h1,h2,h3,h4⟩:=hI.get (by simp only[decide_eq_true_eq]at h;omega)
  have h4':=h4 (by omega)
  have hlen:=fil_len (carO o) (floodR o) i;refine .skip (.op (carO o (i:Int)) (by show(if 0≤a.1∧a.1<((32:Nat):Int)then some (gD t58 false a.1.toNat)else none)=_;rw[if_pos (by omega),h1,Int.toNat_natCast,hcar i h2]) (.skip (.br (fun hc=>?_) fun hc=>.skip (.done rfl (h4' _ (by rw[fil_succ,if_neg (by rw[hc];simp),List.append_nil];exact h3))))))
  obtain⟨b0,b1⟩:=car_bd hg hc;obtain⟨hb,hbm⟩:=bd_at hg ha b0 b1;have hd:=hg.bd _ hbm;rw[← h1]at hb b0 b1;refine .skip (.inl (.skip (.op _ hb (.skip (.call _ (domRD_at hg ha n b0 b1) fun r86 h86=>.skip (.inl (.skip (.call (fun r=>r=(enC,(0:Int))) ⟨_,encap_v n,rfl⟩ fun r87 h87=>?_))))))))
  subst h86 h87;refine .skip (.tidy rfl (.inl (.skip (.inl (.skip (.call (fun r=>r=taC (bdD o.fabric a.1).Target) ⟨_,target_v n (h1▸hd.1.1) (h1▸hd.1.2),rfl⟩ fun r88 h88=>?_))))))
  subst h88;refine .skip (.tidy rfl (.inl ?_));refine .call1 _ (route_at hg ha n _ _ _ rfl (by simp) hn) fun r89 h89=>.skip (.br (fun htr=>?_) fun htr=>?_)
  ·have hgr:At (c_origin_Group.S n a.1) (fun r:Int=>r=4009754625+a.1):=by
    refine(?_ :AtG n (g_origin_Group a.1) _);refine .skip (.br (fun h=>(by simp only[decide_eq_true_eq]at h;omega)) fun _=>.skip (.br (fun h=>(by simp only[decide_eq_true_eq]at h;omega)) fun _=>.skip (.done rfl ?_)))
    show IntKind.wrap .u32 ((4009754625:Int)+(IntKind.wrap .u32 a.1))=_;rw[w32 (x:=a.1) (by omega) (by omega),w32 (x:=4009754625+a.1) (by omega) (by omega)]
   refine .skip (.call _ hgr fun r90 h90=>?_)
   repeat first |refine .skip ?_ |refine .inl ?_ |refine .tidy rfl ?_
   refine .op () (ifU ⟨rfl,roomyR (by rw[h3];omega)⟩) ?_
   repeat first |refine .skip ?_ |refine .inl ?_ |refine .tidy rfl ?_
   refine .done rfl (h4' _ ?_);rw[fil_succ,if_pos hc,h3,h90,h89];simp only[floodR,htr,if_true,h1]
  ·repeat first |refine .skip ?_ |refine .inl ?_ |refine .tidy rfl ?_
   refine .op () (ifU ⟨rfl,roomyR (by rw[h3];omega)⟩) ?_
   repeat first |refine .skip ?_ |refine .inl ?_ |refine .tidy rfl ?_
   refine .done rfl (h4' _ ?_);rw[fil_succ,if_pos hc,h3,h89];simp only[floodR,htr,h1];rfl
 have hl1:t95.length≤32:=by rw[ht95];exact fil_len _ _ _
 have sh_iff:∀{i:Nat},i<o.fabric.Segments.length→shB o (i:Int)=(decide (((sgD o.fabric (i:Int)).Leaves.length:Int)>1)&&liveO o (i:Int)):=fun {i} hi=>by
  unfold shB;congr 1;simp only[gt_iff_lt,decide_eq_decide];omega
 refine .tidy rfl (.inl (.tidy rfl (.inl (.skip (.inl (.skip (.call _ (nrd_at n ha (x:=0) (by omega) (by omega)) fun r96 h96=>?_)))))))
 subst h96
 repeat first |refine .skip ?_ |refine .inl ?_ |refine .tidy rfl ?_
 refine .loop (fun a:Int×List Route=>NumI o.fabric.Segments.length (fun i l=>l=t95++((idx i).filter (shB o)).map (segR o)) a) (fun a=>o.fabric.Segments.length - a.1.toNat) (fun t:List Route=>t=t95++(shL o).map (segR o)) rfl (NumI.start (by simp[idx])) (by simp;omega) (fun a hI=>?_) (fun(t149:List Route) ht149=>?_)
 ·refine .skip (.br (fun h=>?_) fun h=>.skip (.done rfl (hI.fin (by simpa using h))))
  obtain⟨i,h1,h2,h3,h4⟩:=hI.get (by simpa using h)
  have h4':=h4 (by omega)
  have hlen:=fil_len (shB o) (segR o) i;obtain⟨hsg,hsm⟩:=seg_at hg ha (s:=(i:Int)) (by omega) (by omega)
  rw[← h1]at hsg;have hno:shB o (i:Int)=false→NumI o.fabric.Segments.length (fun i l=>l=t95++((idx i).filter (shB o)).map (segR o)) (inc a.1,a.2)∧o.fabric.Segments.length - (inc a.1).toNat<o.fabric.Segments.length - a.1.toNat:=fun hb=>h4' _ (by rw[fil_succ,if_neg (by rw[hb];simp),List.append_nil];exact h3)
  refine .skip (.op _ hsg (.skip (.op () rfl (.skip (.br (fun hm=>?_) fun hm=>.skip (.done rfl (hno (by rw[sh_iff h2,← h1,hm];rfl))))))))
  refine .skip (.call _ (live_at hg ha n hn hu a.1) fun r138 h138=>.skip (.br (fun hlv=>?_) fun hlv=>.skip (.done rfl (hno (by rw[sh_iff h2,← h1,← h138,hlv,Bool.and_false])))))
  have hsh:shB o (i:Int)=true:=by rw[sh_iff h2,← h1,← h138,hlv,hm];rfl
  have hes:esO o a.1=esV a.1:=by unfold esO;rw[if_neg (by simp only[decide_eq_true_eq]at hm;omega)]
  refine .skip (.inl (.skip (.call _ (oesi_at hg ha n (s:=a.1) (by omega) (by omega)) fun r139 h139=>.skip (.inl (.skip (.call (fun r=>r=(enC,(0:Int))) ⟨_,encap_v n,rfl⟩ fun r140 h140=>?_))))))
  rw[hes]at h139;subst h139 h140;refine .skip (.tidy rfl (.inl (.skip (.call _ (imp_at n a.1) fun r141 h141=>?_))))
  subst h141;refine .inl (.skip (.call (fun r=>r=(madeS 6 2 0,(0:Int))) ⟨_,import_v n (by omega) (by omega),rfl⟩ fun r142 h142=>?_))
  subst h142;refine .skip (.tidy rfl (.inl (.skip (.inl (.skip (.call (fun r=>r=(madeS 6 6 (o.fabric.Elect*1099511627776+(32767 - o.self)),(0:Int))) ⟨_,by rw[wrap_i64 (x:=32767 - o.self) (by omega) (by omega)];exact election_v n hg.elect.1 hg.elect.2 (by omega) (by omega),rfl⟩ fun r143 h143=>?_))))))
  subst h143;refine .skip (.tidy rfl (.inl (.skip ?_)));refine .call1 _ (route_at hg ha n _ _ _ rfl (by simp) hn) fun r144 h144=>?_
  repeat first |refine .skip ?_ |refine .inl ?_ |refine .tidy rfl ?_
  refine .op () (ifU ⟨rfl,roomyR (by rw[h3,List.length_append];omega)⟩) ?_
  repeat first |refine .skip ?_ |refine .inl ?_ |refine .tidy rfl ?_
  refine .done rfl (h4' _ ?_);rw[fil_succ,if_pos hsh,← List.append_assoc,← h3,h144,← h1];rfl
 have hl2:t149.length≤92:=by
  have:=fil_len (shB o) (segR o) o.fabric.Segments.length;rw[ht149,List.length_append];unfold shL;omega
 refine .tidy rfl (.inl (.tidy rfl (.inl (.skip (.inl (.skip (.call _ (nrd_at n ha (x:=0) (by omega) (by omega)) fun r150 h150=>?_)))))))
 subst h150
 repeat first |refine .skip ?_ |refine .inl ?_ |refine .tidy rfl ?_
 refine .loop (fun a:Int×List Route=>NumI o.fabric.Segments.length (fun i l=>l=t149++((idx i).filter (shB o)).map (wholeR o)) a) (fun a=>o.fabric.Segments.length - a.1.toNat) (fun t:List Route=>t=t149++(shL o).map (wholeR o)) rfl (NumI.start (by simp[idx])) (by simp;omega) (fun a hI=>?_) (fun(t239:List Route) ht239=>?_)
 ·refine .skip (.br (fun h=>?_) fun h=>.skip (.done rfl (hI.fin (by simpa using h))))
  obtain⟨i,h1,h2,h3,h4⟩:=hI.get (by simpa using h)
  have h4':=h4 (by omega)
  have hlen:=fil_len (shB o) (wholeR o) i;obtain⟨hsg,hsm⟩:=seg_at hg ha (s:=(i:Int)) (by omega) (by omega)
  have hx:=hg.seg _ hsm;rw[← h1]at hsg hx;have hno:shB o (i:Int)=false→NumI o.fabric.Segments.length (fun i l=>l=t149++((idx i).filter (shB o)).map (wholeR o)) (inc a.1,a.2)∧o.fabric.Segments.length - (inc a.1).toNat<o.fabric.Segments.length - a.1.toNat:=fun hb=>h4' _ (by rw[fil_succ,if_neg (by rw[hb];simp),List.append_nil];exact h3)
  refine .skip (.op _ hsg (.skip (.op () rfl (.skip (.br (fun hm=>?_) fun hm=>.skip (.done rfl (hno (by rw[sh_iff h2,← h1,hm];rfl))))))))
  refine .skip (.call _ (live_at hg ha n hn hu a.1) fun r222 h222=>.skip (.br (fun hlv=>?_) fun hlv=>.skip (.done rfl (hno (by rw[sh_iff h2,← h1,← h222,hlv,Bool.and_false])))))
  have hsh:shB o (i:Int)=true:=by rw[sh_iff h2,← h1,← h222,hlv,hm];rfl
  have hes:esO o a.1=esV a.1:=by unfold esO;rw[if_neg (by simp only[decide_eq_true_eq]at hm;omega)]
  refine .skip (.inl (.skip (.inl (.skip (.call (fun r=>r=(enC,(0:Int))) ⟨_,encap_v n,rfl⟩ fun r223 h223=>?_)))))
  subst h223;have hinc:IntKind.wrap .u32 (inc a.1)=a.1+1:=by
   show IntKind.wrap .u32 (IntKind.wrap .i64 (a.1+1))=_;rw[wrap_i64 (by omega) (by omega),w32 (by omega) (by omega)]
  refine .skip (.tidy rfl (.inl (.skip (.inl (.skip (.call (fun r=>r=(madeS 6 1 (a.1+1),(0:Int))) ⟨_,by rw[hinc];exact label_v n (by omega) (by omega),rfl⟩ fun r224 h224=>?_))))))
  subst h224;refine .skip (.tidy rfl (.inl (.skip (.op _ hsg (.skip (.op () rfl (.skip ?_)))))));refine .loop (fun b:Int×List (V8 Int)=>IdxI (sgD o.fabric a.1).BDs (fun pre l=>l=[enC,madeS 6 1 (a.1+1)]++pre.map (fun b=>taC (bdD o.fabric b).Target)) b) (fun b=>(sgD o.fabric a.1).BDs.length - b.1.toNat) (fun l:List (V8 Int)=>l=[enC,madeS 6 1 (a.1+1)]++(sgD o.fabric a.1).BDs.map (fun b=>taC (bdD o.fabric b).Target)) rfl (IdxI.start (by simp)) (by simp;omega) (fun b hJ=>?_) (fun(t232:List (V8 Int)) ht232=>?_)
  ·refine .skip (.br (fun h=>?_) fun h=>.skip (.done rfl (hJ.fin h)))
   obtain⟨y,pre,j1,j2,j3,⟨-,post,jl⟩,j4⟩:=hJ.get h;have hy:=hx.2.2 y j2;have hpl:pre.length≤1000:=by have:=congrArg List.length jl;simp only[List.length_append]at this;omega
   obtain⟨hb,hbm⟩:=bd_at hg ha hy.1 hy.2;have hd:=hg.bd _ hbm;refine .skip (.op y j1 (.skip (.op _ hb (.skip (.inl (.skip (.call (fun r=>r=taC (bdD o.fabric y).Target) ⟨_,target_v n hd.1.1 hd.1.2,rfl⟩ fun r229 h229=>?_)))))))
   subst h229;refine .skip (.op () (ifU ⟨rfl,by rw[j3];simp[roomy];omega⟩) ?_)
   repeat first |refine .skip ?_ |refine .inl ?_ |refine .tidy rfl ?_
   refine .done rfl (j4 (by omega) _ ?_)
   rw[j3,List.map_append,← List.append_assoc];rfl
  refine .skip (.call _ (oesi_at hg ha n (s:=a.1) (by omega) (by omega)) fun r233 h233=>.skip ?_)
  rw[hes]at h233;subst h233;refine .call1 _ (route_at hg ha n _ _ _ rfl (by rw[ht232];simp;omega) hn) fun r234 h234=>?_
  repeat first |refine .skip ?_ |refine .inl ?_ |refine .tidy rfl ?_
  refine .op () (ifU ⟨rfl,roomyR (by rw[h3,List.length_append];omega)⟩) ?_
  repeat first |refine .skip ?_ |refine .inl ?_ |refine .tidy rfl ?_
  refine .done rfl (h4' _ ?_);rw[fil_succ,if_pos hsh,← List.append_assoc,← h3,h234,ht232,← h1];rfl
 have hl3:t239.length≤152:=by
  have:=fil_len (shB o) (wholeR o) o.fabric.Segments.length;rw[ht239,List.length_append];unfold shL;omega
 have hpl:∀j:Nat,j<o.fabric.Segments.length→((sgD o.fabric (j:Int)).BDs.map (partR o (j:Int))).length≤1000:=fun j hj=>by
  rw[List.length_map];exact(hg.seg _ (seg_at hg ha (s:=(j:Int)) (by omega) (by omega)).2).2.1
 repeat first |refine .skip ?_ |refine .inl ?_ |refine .tidy rfl ?_
 refine .loop (fun a:Int×List Route=>NumI o.fabric.Segments.length (fun i l=>l=t239++((idx i).filter (shB o)).flatMap (fun s=>(sgD o.fabric s).BDs.map (partR o s))) a) (fun a=>o.fabric.Segments.length - a.1.toNat) (fun t:List Route=>t=t239++(shL o).flatMap (fun s=>(sgD o.fabric s).BDs.map (partR o s))) rfl (NumI.start (by simp[idx])) (by simp;omega) (fun a hI=>?_) (fun(t376:List Route) ht376=>?_)
 ·refine .skip (.br (fun h=>?_) fun h=>.skip (.done rfl (hI.fin (by simpa using h))))
  obtain⟨i,h1,h2,h3,h4⟩:=hI.get (by simpa using h)
  have h4':=h4 (by omega)
  have hlen:=fla_len (shB o) (fun s=>(sgD o.fabric s).BDs.map (partR o s)) 1000 i fun j hj=>hpl j (by omega)
  obtain⟨hsg,hsm⟩:=seg_at hg ha (s:=(i:Int)) (by omega) (by omega)
  have hx:=hg.seg _ hsm;rw[← h1]at hsg hx;have hno:shB o (i:Int)=false→NumI o.fabric.Segments.length (fun i l=>l=t239++((idx i).filter (shB o)).flatMap (fun s=>(sgD o.fabric s).BDs.map (partR o s))) (inc a.1,a.2)∧o.fabric.Segments.length - (inc a.1).toNat<o.fabric.Segments.length - a.1.toNat:=fun hb=>h4' _ (by rw[fla_succ,if_neg (by rw[hb];simp),List.append_nil];exact h3)
  refine .skip (.op _ hsg (.skip (.op () rfl (.skip (.br (fun hm=>?_) fun hm=>.skip (.done rfl (hno (by rw[sh_iff h2,← h1,hm];rfl))))))))
  refine .skip (.call _ (live_at hg ha n hn hu a.1) fun r349 h349=>.skip (.br (fun hlv=>?_) fun hlv=>.skip (.done rfl (hno (by rw[sh_iff h2,← h1,← h349,hlv,Bool.and_false])))))
  have hsh:shB o (i:Int)=true:=by rw[sh_iff h2,← h1,← h349,hlv,hm];rfl
  have hes:esO o a.1=esV a.1:=by unfold esO;rw[if_neg (by simp only[decide_eq_true_eq]at hm;omega)]
  refine .skip (.inl (.skip (.op _ hsg (.skip (.op () rfl (.skip ?_))))));have ha2:a.2.length≤60152:=by rw[h3,List.length_append];omega
  refine .loop (fun b:Int×List Route=>IdxI (sgD o.fabric a.1).BDs (fun pre l=>l=a.2++pre.map (partR o a.1)) b) (fun b=>(sgD o.fabric a.1).BDs.length - b.1.toNat) (fun l:List Route=>l=a.2++(sgD o.fabric a.1).BDs.map (partR o a.1)) rfl (IdxI.start (by simp)) (by simp;omega) (fun b hJ=>?_) (fun(t371:List Route) ht371=>?_)
  ·refine .skip (.br (fun h=>?_) fun h=>.skip (.done rfl (hJ.fin h)))
   obtain⟨y,pre,j1,j2,j3,⟨-,post,jl⟩,j4⟩:=hJ.get h;have hy:=hx.2.2 y j2;have hpl2:pre.length≤1000:=by have:=congrArg List.length jl;simp only[List.length_append]at this;omega
   obtain⟨hb,hbm⟩:=bd_at hg ha hy.1 hy.2;have hd:=hg.bd _ hbm;refine .skip (.op y j1 (.skip (.op _ hb (.skip (.call _ (domRD_at hg ha n hy.1 hy.2) fun r364 h364=>.skip (.call _ (oesi_at hg ha n (s:=a.1) (by omega) (by omega)) fun r365 h365=>.skip (.inl (.skip (.call (fun r=>r=(enC,(0:Int))) ⟨_,encap_v n,rfl⟩ fun r366 h366=>?_)))))))))
   rw[hes]at h365;subst h364 h365 h366;refine .skip (.tidy rfl (.inl (.skip (.inl (.skip (.call (fun r=>r=taC (bdD o.fabric y).Target) ⟨_,target_v n hd.1.1 hd.1.2,rfl⟩ fun r367 h367=>?_))))))
   subst h367;refine .skip (.tidy rfl (.inl ?_));refine .call1 _ (route_at hg ha n _ _ _ rfl (by simp) hn) fun r368 h368=>?_
   repeat first |refine .skip ?_ |refine .inl ?_ |refine .tidy rfl ?_
   refine .op () (ifU ⟨rfl,roomyR (by rw[j3,List.length_append,List.length_map];omega)⟩) ?_
   repeat first |refine .skip ?_ |refine .inl ?_ |refine .tidy rfl ?_
   refine .done rfl (j4 (by omega) _ ?_)
   rw[List.map_append,← List.append_assoc,← j3,h368];rfl
  refine .tidy rfl (.skip (.done rfl (h4' _ ?_)));rw[fla_succ,if_pos hsh,← List.append_assoc,← h3,ht371,← h1]
 have hl4:t376.length≤60152:=by
  have:=fla_len (shB o) (fun s=>(sgD o.fabric s).BDs.map (partR o s)) 1000 o.fabric.Segments.length hpl
  rw[ht376,List.length_append];unfold shL;omega
 repeat first |refine .skip ?_ |refine .inl ?_ |refine .tidy rfl ?_
 have hw0:IntKind.wrap .i64 ((((List.length o.claims):Nat):Int) - (1:Int))=(o.claims.length:Int) - 1:=wrap_i64 (by omega) (by omega)
 refine .loop (fun a:Int×List (origin_place×Int)=>∃k:Nat,a.1=(k:Int) - 1∧k≤o.claims.length∧∀q,getM eqP q a.2=seqL (o.claims.drop k) q) (fun a=>(a.1+1).toNat) (fun t:List (origin_place×Int)=>∀q,getM eqP q t=seqL o.claims q) rfl ⟨o.claims.length,hw0,Nat.le_refl _,fun q=>by rw[List.drop_length];rfl⟩ (by show((IntKind.wrap .i64 ((((List.length o.claims):Nat):Int) - (1:Int)))+1).toNat<n;rw[hw0];omega) (fun a hI=>?_) (fun(t385:List (origin_place×Int)) ht385=>?_)
 ·obtain⟨k,h1,h2,h3⟩:=hI;refine .skip (.br (fun h=>?_) fun h=>.skip (.done rfl (?_ :∀q,getM eqP q a.2=seqL o.claims q)))
  ·simp only[decide_eq_true_eq]at h;obtain⟨c,hc,hcm⟩:=at_in o.claims a.1 h (by omega)
   have hw:IntKind.wrap .i64 (a.1 - (1:Int))=((k - 1:Nat):Int) - 1:=by rw[wrap_i64 (by omega) (by omega)];omega
   refine .skip (.op c hc (.skip (.inl (.skip (.op () rfl (.tidy rfl (.skip (.done rfl ⟨⟨k - 1,hw,by omega,fun q=>?_⟩,?_⟩))))))))
   ·rw[show(IntKind.wrap .i64 (a.1 - (1:Int)),putM eqP (origin_place.mk c.BD c.MAC) c.Seq a.2).2=putM eqP (origin_place.mk c.BD c.MAC) c.Seq a.2 from rfl,getM_put eqP_iff];have hk:k - 1<o.claims.length:=by omega
    have hc2:o.claims[k - 1]=c:=by
     have:o.claims[k - 1]? =some c:=by
      have:=hc;unfold at? at this;rw[if_pos h]at this;rwa[show a.1.toNat=k - 1 by omega]at this
     exact(List.getElem?_eq_some_iff.1 this).2
    rw[List.drop_eq_getElem_cons hk,hc2,seqL_cons,h3 q,show k - 1+1=k by omega]
   ·show(IntKind.wrap .i64 (a.1 - (1:Int))+1).toNat<(a.1+1).toNat;rw[hw];omega
  ·simp only[decide_eq_false_iff_not]at h;intro q;rw[h3 q,show k=0 by omega,List.drop_zero]
 have hsq:∀x:Near,Option.getD (Option.map (fun x=>x.2) (findM eqP (origin_place.mk x.BD x.MAC) t385 (0:Nat))) (0:Int)=seqO o x:=fun x=>by
  have h:=ht385 ⟨x.BD,x.MAC⟩;show(getM eqP ⟨x.BD,x.MAC⟩ t385).getD 0=_;rw[h];rfl
 have hsr:=seqO_rng hseq
 repeat first |refine .skip ?_ |refine .inl ?_ |refine .tidy rfl ?_
 refine .loop (fun a:Int×List Route×List (origin_place×Bool)=>IdxI o.near (fun pre s=>s.1=t376++(useF o pre).flatMap (addrR o)∧SeenM s.2 ((useF o pre).map plN)) a) (fun a=>o.near.length - a.1.toNat) (fun t:List Route×List (origin_place×Bool)=>t.1=t376++(useF o o.near).flatMap (addrR o)) rfl (IdxI.start ⟨by simp[useF],by simp[useF,SeenM]⟩) (by simp;omega) (fun a hI=>?_) (fun(t580:List Route×List (origin_place×Bool)) ht580=>?_)
 ·refine .skip (.br (fun h=>?_) fun h=>.skip (.done rfl (hI.fin h).1))
  obtain⟨x,pre,h1,h2,⟨h3,h3m⟩,⟨-,post,jl⟩,h4⟩:=hI.get h;have h4':=h4 (by omega)
  have hprl:pre.length≤1000:=by have:=congrArg List.length jl;simp only[List.length_append]at this;omega
  have ha2:a.2.1.length≤62152:=by
   have:=flat2_len o (useF o pre);have:=useF_len o pre;rw[h3,List.length_append];omega
  have hno:=fun(hb:¬(okO o x=true∧¬plN x∈(useF o pre).map plN))=>h4' (a.2.1,a.2.2) ⟨by rw[useF_snoc,if_neg hb];exact h3,by rw[useF_snoc,if_neg hb];exact h3m⟩
  refine .skip (.op x h1 (.skip (.call _ (live_at hg ha n hn hu x.Segment) fun r532 h532=>.skip (.br (fun hb=>.skip (.done rfl (hno fun hc=>by have:=hc.1;simp only[okO,← h532,nbT hb,Bool.false_and]at this;cases this))) fun hb=>?_))))
  have hlv:liveO o x.Segment=true:=by rw[← h532];exact nbF hb
  have hlv2:=hlv;unfold liveO at hlv2;simp only[Bool.and_eq_true,decide_eq_true_eq]at hlv2;have hs0:=hlv2.1;have hs1:x.Segment<(o.fabric.Segments.length:Int):=by have:=hlv2.2.1;omega
  clear hlv2 hb h532 r532;obtain⟨hsg,hsm⟩:=seg_at hg ha hs0 hs1;have hx:=hg.seg _ hsm;refine .skip (.op _ hsg (.skip (.call _ (cont_x n hn _ x.BD (by omega)) fun r535 h535=>.skip (.br (fun hb=>.skip (.done rfl (hno fun hc=>by have:=hc.1;simp only[okO,← h535,nbT hb,Bool.false_and,Bool.and_false]at this;cases this))) fun hb=>?_))))
  have hel:elI (sgD o.fabric x.Segment).BDs x.BD=true:=by rw[← h535];exact nbF hb
  clear hb h535 r535;refine .skip (.br (fun hb=>.skip (.done rfl (hno fun hc=>by have:=hc.1;simp only[okO,hb,Bool.not_true,Bool.false_and,Bool.and_false]at this;cases this))) fun hm0=>?_)
  refine .skip (.br (fun hb=>.skip (.done rfl (hno fun hc=>by have:=hc.1;simp only[okO,Bool.and_eq_true,decide_eq_true_eq]at this hb;omega))) fun hm1=>?_)
  have hmu:At (c_addr_Multicast.S n x.MAC) (fun r:Bool=>r=castM x.MAC):=At.eq fun k=>addr_Multicast n x.MAC k
  refine .skip (.call _ hmu fun r539 h539=>.skip (.br (fun hb=>.skip (.done rfl (hno fun hc=>by have:=hc.1;simp only[okO,← h539,hb,Bool.not_true,Bool.false_and,Bool.and_false]at this;cases this))) fun hb=>?_))
  have hcm:castM x.MAC=false:=by rw[← h539];exact hb
  clear hb h539 r539;have hok:(x.HasIP||x.IP==0)=true→okO o x=true:=fun hi=>by
   simp only[decide_eq_false_iff_not]at hm1;unfold okO;rw[hlv,hel,hm0,hcm,hi,decide_eq_true (show x.MAC≤281474976710655 by omega)];rfl
  have hsn:Option.getD (Option.map (fun x=>x.2) (findM eqP (origin_place.mk x.BD x.MAC) a.2.2 (0:Nat))) false=decide (plN x∈(useF o pre).map plN):=SeenM.get eqP_d h3m (plN x)
  have hyes:=fun(hi:(x.HasIP||x.IP==0)=true) (hs:¬plN x∈(useF o pre).map plN) (l:List Route) (he:l=a.2.1++addrR o x)=>h4' (l,putM eqP (plN x) true a.2.2) ⟨by rw[useF_snoc,if_pos ⟨hok hi,hs⟩,List.flatMap_append,← List.append_assoc,← h3,he];simp,by rw[useF_snoc,if_pos ⟨hok hi,hs⟩,List.map_append];exact h3m.put eqP_d (plN x)⟩
  have hy:=hx.2.2 x.BD (elI_iff.1 hel);obtain⟨hb,hbm⟩:=bd_at hg ha hy.1 hy.2;have hd:=hg.bd _ hbm;have hq:=hsq x;have hqr:=hsr x;refine .skip (.br (fun hip=>?_) fun hip=>?_)
  ·have hip:=nbT hip;have hna:¬(x.HasIP=true∧(bdD o.fabric x.BD).Gateway≠0):=fun h=>by rw[hip]at h;cases h.1
   refine .skip (.br (fun hb=>.skip (.done rfl (hno fun hc=>by
    have h0:(x.IP==0)=false:=by simpa[bne]using hb
    have:=hc.1;simp only[okO,hip,h0,Bool.or_false,Bool.and_false]at this;cases this))) fun hi0=>?_)
   have hi:(x.HasIP||x.IP==0)=true:=by rw[hip,Bool.false_or];simpa[bne]using hi0
   refine .skip (.op () rfl (.br (fun hb=>.skip (.done rfl (hno fun hc=>hc.2 (by rw[hsn]at hb;exact of_decide_eq_true hb)))) fun hb2=>?_))
   have hs:=of_decide_eq_false (hsn.symm.trans hb2);refine .skip (.op () rfl (.skip (.inl (.skip (.op _ hb (.skip (.call _ (domRD_at hg ha n hy.1 hy.2) fun r544 h544=>.skip (.call _ (oesi_at hg ha n hs0 hs1) fun r545 h545=>.skip (.op () rfl (.skip (.inl (.skip (.call (fun r=>r=(enC,(0:Int))) ⟨_,encap_v n,rfl⟩ fun r546 h546=>?_)))))))))))))
   subst h544 h545 h546;refine .skip (.tidy rfl (.inl (.skip (.inl (.skip (.call (fun r=>r=taC (bdD o.fabric x.BD).Target) ⟨_,target_v n hd.1.1 hd.1.2,rfl⟩ fun r547 h547=>?_))))))
   subst h547;refine .skip (.tidy rfl (.inl (.skip (.inl (.skip (.br (fun h0=>?_) fun h0=>?_))))))
   ·rw[hq,beq_iff_eq]at h0;refine .skip (.tidy rfl (.inl ?_));refine .call1 _ (route_at hg ha n _ _ _ rfl (by simp) hn) fun r548 h548=>.inl (.skip (.inl (.skip (.op () (ifU ⟨rfl,roomyR (by omega)⟩) (.skip (.tidy rfl (.skip (.tidy rfl (.skip (.br (fun _=>?_) fun h=>(by rw[hip]at h;cases h)))))))))))
    refine .skip (.tidy rfl (.skip (.done rfl (hyes hi hs _ ?_))));rw[addr1 hna,h548];unfold macR;rw[mac0 h0]
   ·rw[hq]at h0;have h0:¬seqO o x=0:=by simpa using h0
    refine .skip (.call (fun r=>r=madeS 6 0 (seqO o x)) (by rw[hq];exact⟨_,mobility_v n hqr.1 hqr.2,rfl⟩) fun r550 h550=>?_)
    subst h550;refine .skip (.tidy rfl (.inl ?_));refine .call1 _ (route_at hg ha n _ _ _ rfl (by simp) hn) fun r551 h551=>.inl (.skip (.inl (.skip (.op () (ifU ⟨rfl,roomyR (by omega)⟩) (.skip (.tidy rfl (.skip (.tidy rfl (.skip (.br (fun _=>?_) fun h=>(by rw[hip]at h;cases h)))))))))))
    refine .skip (.tidy rfl (.skip (.done rfl (hyes hi hs _ ?_))));rw[addr1 hna,h551];unfold macR;rw[mac1 h0]
  ·have hip:=nbF hip;have hi:(x.HasIP||x.IP==0)=true:=by rw[hip,Bool.true_or]
   refine .skip (.op () rfl (.br (fun hb=>.skip (.done rfl (hno fun hc=>hc.2 (by rw[hsn]at hb;exact of_decide_eq_true hb)))) fun hb2=>?_))
   have hs:=of_decide_eq_false (hsn.symm.trans hb2);refine .skip (.op () rfl (.skip (.inl (.skip (.op _ hb (.skip (.call _ (domRD_at hg ha n hy.1 hy.2) fun r544 h544=>.skip (.call _ (oesi_at hg ha n hs0 hs1) fun r545 h545=>.skip (.op () rfl (.skip (.inl (.skip (.call (fun r=>r=(enC,(0:Int))) ⟨_,encap_v n,rfl⟩ fun r546 h546=>?_)))))))))))))
   subst h544 h545 h546;refine .skip (.tidy rfl (.inl (.skip (.inl (.skip (.call (fun r=>r=taC (bdD o.fabric x.BD).Target) ⟨_,target_v n hd.1.1 hd.1.2,rfl⟩ fun r547 h547=>?_))))))
   subst h547;refine .skip (.tidy rfl (.inl (.skip (.inl (.skip (.br (fun h0=>?_) fun h0=>?_))))))
   ·rw[hq,beq_iff_eq]at h0;refine .skip (.tidy rfl (.inl ?_));refine .call1 _ (route_at hg ha n _ _ _ rfl (by simp) hn) fun(r559:Route) h559=>.inl (.skip (.inl (.skip (.op () (ifU ⟨rfl,roomyR (by omega)⟩) (.skip (.tidy rfl (.skip (.tidy rfl (.skip (.br (fun h=>(by rw[hip]at h;cases h)) fun _=>?_))))))))))
    refine .skip (.br (fun hgw=>?_) fun hgw=>?_)
    ·rw[beq_iff_eq]at hgw;refine .skip (.tidy rfl (.skip (.done rfl (hyes hi hs _ ?_))));rw[addr1 (fun h=>h.2 hgw),h559];unfold macR;rw[mac0 h0]
    have hgw:¬(bdD o.fabric x.BD).Gateway=0:=by simpa using hgw
    have ht:=hd.2.2 hgw;obtain⟨htn,htm⟩:=at_inD (α:=Tenant) ⟨0,0⟩ ht.1 ht.2.2;have htt:=hg.ten _ htm;refine .skip (.op _ htn (.skip (.inl (.skip (.call (fun r=>r=(enC,(0:Int))) ⟨_,encap_v n,rfl⟩ fun r562 h562=>?_)))))
    subst h562;refine .skip (.tidy rfl (.inl (.skip (.inl (.skip (.call (fun r=>r=taC (bdD o.fabric x.BD).Target) ⟨_,target_v n hd.1.1 hd.1.2,rfl⟩ fun r563 h563=>?_))))))
    subst h563;refine .skip (.tidy rfl (.inl (.skip (.inl (.skip (.br (fun _=>?_) fun h=>(by rw[hq,h0]at h;cases h)))))))
    refine .skip (.tidy rfl (.inl (.skip (.inl (.skip (.call (fun r=>r=taC (tnB o x).Target) ⟨_,target_v n htt.1.1 htt.1.2,rfl⟩ fun r564 h564=>?_))))))
    subst h564;refine .skip (.tidy rfl (.inl (.skip (.inl (.skip (.call (fun r=>r=(madeS 6 3 o.router,(0:Int))) ⟨_,router_v n hr.1 hr.2,rfl⟩ fun r565 h565=>?_))))))
    subst h565;refine .skip (.tidy rfl (.inl (.skip ?_)));refine .call1 _ (route_at hg ha n _ _ _ rfl (by simp) hn) fun(r566:Route) h566=>.inl (.skip (.inl (.skip (.op () (ifU ⟨rfl,roomyR (by rw[List.length_append,show[r559].length=1 from rfl];omega)⟩) (.skip (.tidy rfl (.skip (.tidy rfl (.skip (.tidy rfl (.skip (.done rfl (hyes hi hs _ ?_)))))))))))))
    rw[addr2 ⟨hip,hgw⟩,h559,h566,List.append_assoc];unfold macR macI;rw[mac0 h0];rfl
   ·rw[hq]at h0;have h0:¬seqO o x=0:=by simpa using h0
    have hmob:At (c_comm_Mobility.S n (false,Option.getD (Option.map (fun x=>x.2) (findM eqP (origin_place.mk x.BD x.MAC) t385 (0:Nat))) (0:Int))) (fun r=>r=madeS 6 0 (seqO o x)):=by rw[hq];exact⟨_,mobility_v n hqr.1 hqr.2,rfl⟩
    refine .skip (.call _ hmob fun r550 h550=>?_)
    subst h550;refine .skip (.tidy rfl (.inl ?_));refine .call1 _ (route_at hg ha n _ _ _ rfl (by simp) hn) fun(r559:Route) h559=>.inl (.skip (.inl (.skip (.op () (ifU ⟨rfl,roomyR (by omega)⟩) (.skip (.tidy rfl (.skip (.tidy rfl (.skip (.br (fun h=>(by rw[hip]at h;cases h)) fun _=>?_))))))))))
    refine .skip (.br (fun hgw=>?_) fun hgw=>?_)
    ·rw[beq_iff_eq]at hgw;refine .skip (.tidy rfl (.skip (.done rfl (hyes hi hs _ ?_))));rw[addr1 (fun h=>h.2 hgw),h559];unfold macR;rw[mac1 h0]
    have hgw:¬(bdD o.fabric x.BD).Gateway=0:=by simpa using hgw
    have ht:=hd.2.2 hgw;obtain⟨htn,htm⟩:=at_inD (α:=Tenant) ⟨0,0⟩ ht.1 ht.2.2;have htt:=hg.ten _ htm;refine .skip (.op _ htn (.skip (.inl (.skip (.call (fun r=>r=(enC,(0:Int))) ⟨_,encap_v n,rfl⟩ fun r562 h562=>?_)))))
    subst h562;refine .skip (.tidy rfl (.inl (.skip (.inl (.skip (.call (fun r=>r=taC (bdD o.fabric x.BD).Target) ⟨_,target_v n hd.1.1 hd.1.2,rfl⟩ fun r563 h563=>?_))))))
    subst h563;refine .skip (.tidy rfl (.inl (.skip (.inl (.skip (.br (fun h=>(by rw[hq]at h;exact absurd (by simpa using h) h0)) fun _=>?_))))))
    refine .skip (.call _ hmob fun r574 h574=>?_)
    subst h574;refine .skip (.tidy rfl (.inl (.skip (.inl (.skip (.call (fun r=>r=taC (tnB o x).Target) ⟨_,target_v n htt.1.1 htt.1.2,rfl⟩ fun r564 h564=>?_))))))
    subst h564;refine .skip (.tidy rfl (.inl (.skip (.inl (.skip (.call (fun r=>r=(madeS 6 3 o.router,(0:Int))) ⟨_,router_v n hr.1 hr.2,rfl⟩ fun r565 h565=>?_))))))
    subst h565;refine .skip (.tidy rfl (.inl (.skip ?_)));refine .call1 _ (route_at hg ha n _ _ _ rfl (by simp) hn) fun(r566:Route) h566=>.inl (.skip (.inl (.skip (.op () (ifU ⟨rfl,roomyR (by rw[List.length_append,show[r559].length=1 from rfl];omega)⟩) (.skip (.tidy rfl (.skip (.tidy rfl (.skip (.tidy rfl (.skip (.done rfl (hyes hi hs _ ?_)))))))))))))
    rw[addr2 ⟨hip,hgw⟩,h559,h566,List.append_assoc];unfold macR macI;rw[mac1 h0];rfl
 have hl5:t580.1.length≤62152:=by
  have:=flat2_len o (useF o o.near);have:=useF_len o o.near;rw[ht580,List.length_append];omega
 refine .tidy rfl (.inl (.tidy rfl (.inl (.skip (.inl (.skip (.inl (.skip (.tidy rfl (.inl (.inl (.skip (.op () rfl (.skip ?_))))))))))))));refine .loop (fun a:Int×List Bool=>IdxI o.fabric.Segments (fun pre t=>SetP o.self pre [] t) a) (fun a=>o.fabric.Segments.length - a.1.toNat) (fun t:List Bool=>SetP o.self o.fabric.Segments [] t) rfl (IdxI.start (SetP.start _)) (by simp;omega) (fun a hI=>?_) (fun(t626:List Bool) ht626=>?_)
 ·refine .skip (.br (fun h=>?_) fun h=>.skip (.done rfl (hI.fin h)))
  obtain⟨x,pre,h1,h2,h3,-,h4⟩:=hI.get h;have hx:=hg.seg x h2;refine .skip (.op x h1 (.skip (.call _ (cont_x n hn x.Leaves o.self (by omega)) fun r45 h45=>.skip (.br (fun h=>.skip (.done rfl (h4 (by omega) _ (h3.skip (by rw[← h45];exact nbT h))))) fun h=>.skip (.op () rfl (.skip ?_))))))
  refine .loop (fun b:Int×List Bool=>IdxI x.BDs (fun pre2 t=>SetP o.self pre pre2 t) b) (fun b=>x.BDs.length - b.1.toNat) (fun t:List Bool=>SetP o.self pre x.BDs t) rfl (IdxI.start h3) (by simp;omega) (fun b hJ=>?_) (fun t55 ht55=>.skip (.done rfl (h4 (by omega) _ (ht55.snoc (by rw[← h45];exact nbF h)))))
  refine .skip (.br (fun h=>?_) fun h=>.skip (.done rfl (hJ.fin h)))
  obtain⟨y,pre2,j1,j2,j3,-,j4⟩:=hJ.get h;have hy:=hx.2.2 y j2;refine .skip (.op y j1 (.skip (.op () (ifU ⟨hy.1,by omega⟩) (.op () (ifU (by rw[j3.1];omega)) (.skip (.done rfl (j4 (by omega) _ (j3.put hy.1 (by omega)))))))))
 have hcar2:∀i:Nat,i<32→gD t626 false i=carO o (i:Int):=fun i hi=>by
  rw[ht626.2 i hi];simp[elI,carO,carP]
 refine .op () (ifU ht626.1) (.skip ?_);refine .loop (fun a:Int×List Route=>NumI 32 (fun i l=>l=t580.1++((idx i).filter (prefB o)).map (prefR o)) a) (fun a=>32 - a.1.toNat) (fun t:List Route=>t=t580.1++((idx 32).filter (prefB o)).map (prefR o)) rfl (NumI.start (by simp[idx])) (by simp;omega) (fun a hI=>?_) (fun(t679:List Route) ht679=>?_)
 ·refine .skip (.br (fun h=>?_) fun h=>.skip (.done rfl (hI.fin (by simp only[decide_eq_false_iff_not]at h;omega))))
  obtain⟨i,h1,h2,h3,h4⟩:=hI.get (by simp only[decide_eq_true_eq]at h;omega)
  have h4':=h4 (by omega)
  have hlen:=fil_len (prefB o) (prefR o) i;have hno:=fun(hb:prefB o (i:Int)=false)=>h4' a.2 (by rw[fil_succ,if_neg (by rw[hb];simp),List.append_nil];exact h3)
  refine .skip (.op (carO o (i:Int)) (by show(if 0≤a.1∧a.1<((32:Nat):Int)then some (gD t626 false a.1.toNat)else none)=_;rw[if_pos (by omega),h1,Int.toNat_natCast,hcar2 i h2]) (.skip (.br (fun hc=>?_) fun hc=>.skip (.done rfl (hno (by unfold prefB;rw[hc];rfl))))))
  obtain⟨b0,b1⟩:=car_bd hg hc;obtain⟨hb,hbm⟩:=bd_at hg ha b0 b1;have hd:=hg.bd _ hbm;rw[← h1]at hb b0 b1 hd;refine .skip (.inl (.skip (.op _ hb (.skip (.br (fun hgw=>.skip (.tidy rfl (.skip (.done rfl (hno (by unfold prefB;rw[← h1,hgw];simp)))))) fun hgw=>?_)))))
  have hpb:prefB o (i:Int)=true:=by unfold prefB;rw[hc,← h1,hgw];rfl
  have hgw:¬(bdD o.fabric a.1).Gateway=0:=by simpa using hgw
  have ht:=hd.2.2 hgw;obtain⟨htn,htm⟩:=at_inD (α:=Tenant) ⟨0,0⟩ ht.1 ht.2.2;have htt:=hg.ten _ htm;have hrd:At (c_nlri_RD.S n (o.address,(IntKind.wrap .u16 (IntKind.wrap .i64 ((1001:Int)+(bdD o.fabric a.1).Tenant))))) (fun r:Int=>r=rdS o.address (1001+(bdD o.fabric a.1).Tenant)):=by
   rw[wrap_i64 (by omega) (by omega),wrap_u16_id (by omega) (by omega)]
   exact nrd_at n ha (by omega) (by omega)
  refine .skip (.op _ htn (.skip (.call _ hrd fun r671 h671=>.skip (.inl (.skip (.call (fun r=>r=(enC,(0:Int))) ⟨_,encap_v n,rfl⟩ fun r672 h672=>?_))))))
  subst h671 h672;refine .skip (.tidy rfl (.inl (.skip (.inl (.skip (.call (fun r=>r=taC (tnD o.fabric (bdD o.fabric a.1).Tenant).Target) ⟨_,target_v n htt.1.1 htt.1.2,rfl⟩ fun r673 h673=>?_))))))
  subst h673;refine .skip (.tidy rfl (.inl (.skip (.inl (.skip (.call (fun r=>r=(madeS 6 3 o.router,(0:Int))) ⟨_,router_v n hr.1 hr.2,rfl⟩ fun r674 h674=>?_))))))
  subst h674;refine .skip (.tidy rfl (.inl ?_));refine .call1 _ (route_at hg ha n _ _ _ rfl (by simp) hn) fun(r675:Route) h675=>?_
  repeat first |refine .skip ?_ |refine .inl ?_ |refine .tidy rfl ?_
  refine .op () (ifU ⟨rfl,roomyR (by rw[h3,List.length_append];omega)⟩) ?_
  repeat first |refine .skip ?_ |refine .inl ?_ |refine .tidy rfl ?_
  refine .done rfl (h4' _ ?_);rw[fil_succ,if_pos hpb,← List.append_assoc,← h3,h675,← h1];rfl
 have hl6:t679.length≤62184:=by
  have:=fil_len (prefB o) (prefR o) 32;rw[ht679,List.length_append];omega
 have hall:t679=allO o:=by
  rw[ht679,ht580,ht376,ht239,ht149,ht95];rfl
 have hso:At (c_slices_SortFunc_Route_Route_r.S n t679) (fun r:List Route=>r=res):=⟨res,(by
  show sortRoS t679=some res;unfold sortRoS;rw[if_pos (by omega),hall];exact hres),rfl⟩
 refine .tidy rfl (.inl (.tidy rfl (.inl (.skip (.tidy rfl (.inl (.skip (.tidy rfl (.inl (.skip (.tidy rfl (.inl (.skip (.call1 _ hso fun r680 h680=>.skip (.done (by have hl:=(isortR_ok _ _ hres).1.length_eq;rw[h680,hall];simp[tsOk,fzRow,hl]) h680)))))))))))))))
end
def mkA(f:Fabric)(self:Int)(up:List Bool)(near:List Near)(claims:List Claim):origin_origin:=⟨f,self,lpV self,rmV self,up,near,claims⟩
theorem Routes_at(n:Nat)(hn:5000≤n){f:Fabric}{self:Int}{up:List Bool}{near:List Near}{claims:List Claim}(hg:Gd f)(hc:At (c_tenant_Check.S n f) (fun r:Int×ByteArray×Int=>r.1=0))(hs:0≤self∧self<f.Leaves)(hu:up.length=f.Segments.length)
 (hne:near.length≤1000) (hcl:claims.length≤1000) (hseq:∀c∈claims,0≤c.Seq∧c.Seq<4294967296) (res:List Route) (hres:isortR (allO (mkA f self up near claims))=some res):At (c_origin_Routes.S n (f,self,up,near,claims)) (fun r:List Route=>r=res):=by
 have hL:=hg.leaves;refine(?_ :AtG n (g_origin_Routes f self up near claims) _);refine .skip (.call _ hc fun r6 h6=>.skip (.br (fun h=>(by rw[h6]at h;cases h)) fun _=>.skip (.br (fun h=>(by simp only[decide_eq_true_eq]at h;omega)) fun _=>.skip (.br (fun h=>(by simp only[decide_eq_true_eq]at h;omega)) fun _=>.skip (.op () rfl (.skip (.op () rfl (.skip (.br (fun h=>(by rw[hu]at h;simp at h)) fun _=>?_)))))))))
 refine .skip (.call _ (lp_at n self hs.1 (by omega)) fun r11 h11=>.skip (.call _ (rm_at n self hs.1 (by omega)) fun r12 h12=>.skip (.tidy rfl ?_)))
 have e:mkO f self r11 r12 up near claims=mkA f self up near claims:=by unfold mkO mkA;rw[h11,h12]
 rw[e];refine gOr_at (o:=mkA f self up near claims) hg ?_ hu ⟨hs.1,by show self<32;omega⟩ ?_ hne hcl hseq n hn res hres
 ·show inW (lpV self);unfold inW lpV;omega
 ·show 0≤rmV self∧rmV self<281474976710656;unfold rmV;omega
end Go.L
end
section
namespace Go.L
open Go.AM Go.Sort
theorem bdV_at{f:Fabric}(hv:Vf f){b:Int}(h0:0≤b)(h1:b<(f.BDs.length:Int)):BdV (f.Tenants.length:Int) b (bdD f b):=by
 have h:at? f.BDs b=some (bdD f b):=(at_inD (α:=BD) ⟨0,0,0,⟨0,0⟩,0⟩ h0 h1).1;unfold at? at h;rw[if_pos h0]at h;have:=hv.bd b.toNat _ h;grind
theorem tnV_at{f:Fabric}(hv:Vf f){t:Int}(h0:0≤t)(h1:t<(f.Tenants.length:Int)):tnD f t=⟨100+t,900+t⟩:=by
 have h:at? f.Tenants t=some (tnD f t):=(at_inD (α:=Tenant) ⟨0,0⟩ h0 h1).1;unfold at? at h;rw[if_pos h0]at h;have:=hv.ten t.toNat _ h;grind
theorem gd_of{f:Fabric}(hv:Vf f):Gd f where
 leaves:=by have:=hv.leaves;omega
 elect:=by have:=hv.elect;omega
 segs:=by have:=hv.segments;omega
 bds:=by have:=hv.bds;omega
 seg:=fun s hs=>by
  obtain⟨⟨-,l2,-⟩,-,b2,b3,-⟩:=hv.seg s hs;exact⟨by omega,by omega,b3⟩
 bd:=fun d hd=>by
  obtain⟨i,hi,rfl⟩:=List.getElem_of_mem hd;have h:=hv.bd i _ (List.getElem?_eq_getElem hi);have:=hv.bds;have:=hv.tenants;obtain⟨h1,h2,h3,h4,-⟩:=h;exact⟨⟨by omega,by omega⟩,⟨by omega,by omega⟩,fun _=>⟨h1,by omega,h2⟩⟩
 ten:=fun t ht=>by
  obtain⟨i,hi,rfl⟩:=List.getElem_of_mem ht;have h:=hv.ten i _ (List.getElem?_eq_getElem hi);have:=hv.tenants;rw[h];unfold inW;simp only;omega
theorem keyV_f(x:NLRI):(keyV x).Kind=x.Kind∧(keyV x).RD=x.RD∧(keyV x).Tag=x.Tag∧(keyV x).MAC=x.MAC∧(keyV x).HasIP=x.HasIP∧(keyV x).Prefix=x.Prefix∧(x.Kind≠2→x.Kind≠5→(keyV x).ESI=x.ESI):=by
 unfold keyV;grind
theorem cmpN_eq{x y:NLRI}(h:cmpN x y=0):x.Kind=y.Kind∧x.RD=y.RD∧x.Tag=y.Tag∧x.MAC=y.MAC∧x.HasIP=y.HasIP∧x.Prefix=y.Prefix∧(x.Kind≠2→x.Kind≠5→x.ESI=y.ESI):=by
 obtain⟨k1,k2,k3,k4,k5,k6,k7,k8,-⟩:=numsN_inj ((cmpN_zero x y).1 h);obtain⟨a1,a2,a3,a4,a5,a6,a7⟩:=keyV_f x;obtain⟨b1,b2,b3,b4,b5,b6,b7⟩:=keyV_f y;grind
section
variable (o:origin_origin)
theorem useF_all(l:List Near):∀acc:List Near,(∀n∈acc,okO o n=true)→acc.Pairwise (fun a b=>plN a≠plN b)→
 (∀n∈(l.foldl (fun acc n=>if okO o n=true∧¬(n.BD,n.MAC)∈acc.map (fun m=>(m.BD,m.MAC))then acc++[n]else acc) acc),okO o n=true∧(n∈acc∨n∈l))∧(l.foldl (fun acc n=>if okO o n=true∧¬(n.BD,n.MAC)∈acc.map (fun m=>(m.BD,m.MAC))then acc++[n]else acc) acc).Pairwise (fun a b=>plN a≠plN b):=by
 induction l with
 |nil=>grind
 |cons x l ih=>
  intro acc h1 h2;simp only[List.foldl_cons];split
  ·rename_i hc;obtain⟨i1,i2⟩:=ih (acc++[x]) (fun n hn=>by
    grind) (by
    rw[List.pairwise_append];refine⟨h2,by simp,fun a ha b hb=>?_⟩
    simp only[List.mem_singleton]at hb;subst hb;intro he;refine hc.2 (List.mem_map.2 ⟨a,ha,?_⟩);simp only[plN,origin_place.mk.injEq]at he;rw[he.1,he.2])
   grind
  grind
theorem useF_mem{n:Near}{l:List Near}(h:n∈useF o l):okO o n=true∧n∈l:=by
 obtain⟨h1,-⟩:=useF_all o l [] (by simp) (by simp)
 have:=h1 n h;simpa using this
theorem useF_pw(l:List Near):(useF o l).Pairwise (fun a b=>plN a≠plN b):=(useF_all o l [] (by simp) (by simp)).2
theorem idx_pw(n:Nat):(idx n).Pairwise (· < ·):=by
 unfold idx;rw[List.pairwise_map];exact List.pairwise_lt_range.imp fun h=>by simp;omega
theorem mem_addr{x:Route}{n:Near}(h:x∈addrR o n):x.N.Kind=2∧x.N.RD=rdS o.address (1+n.BD)∧x.N.MAC=n.MAC:=by
 unfold addrR at h;split at h
 ·simp only[List.mem_cons,List.not_mem_nil,or_false]at h;rcases h with rfl |rfl<;>exact⟨rfl,rfl,rfl⟩
 ·simp only[List.mem_singleton]at h;subst h;exact⟨rfl,rfl,rfl⟩
theorem keys_pw{f:Fabric}(hv:Vf f)(self:Int)(up:List Bool)(near:List Near)(claims:List Claim):(allO (mkA f self up near claims)).Pairwise (fun a b=>cmpN a.N b.N≠0):=by
 generalize ho:mkA f self up near claims=o;have hf:o.fabric=f:=by rw[← ho];rfl
 have m1:∀x∈(carL o).map (floodR o),x.N.Kind=3:=fun x hx=>by obtain⟨b,-,rfl⟩:=List.mem_map.1 hx;rfl
 have m2:∀x∈(shL o).map (segR o),x.N.Kind=4:=fun x hx=>by obtain⟨b,-,rfl⟩:=List.mem_map.1 hx;rfl
 have m3:∀x∈(shL o).map (wholeR o),x.N.Kind=1∧x.N.Tag=4294967295:=fun x hx=>by obtain⟨b,-,rfl⟩:=List.mem_map.1 hx;exact⟨rfl,rfl⟩
 have m4:∀x∈(shL o).flatMap (fun s=>(sgD o.fabric s).BDs.map (partR o s)),x.N.Kind=1∧x.N.Tag=0:=fun x hx=>by
  obtain⟨s,-,hx⟩:=List.mem_flatMap.1 hx;obtain⟨b,-,rfl⟩:=List.mem_map.1 hx;exact⟨rfl,rfl⟩
 have m5:∀x∈(useF o o.near).flatMap (addrR o),x.N.Kind=2:=fun x hx=>by
  obtain⟨n,-,hx⟩:=List.mem_flatMap.1 hx;exact(mem_addr o hx).1
 have m6:∀x∈((idx 32).filter (prefB o)).map (prefR o),x.N.Kind=5:=fun x hx=>by obtain⟨b,-,rfl⟩:=List.mem_map.1 hx;rfl
 unfold allO;rw[List.pairwise_append,List.pairwise_append,List.pairwise_append,List.pairwise_append,List.pairwise_append];refine⟨⟨⟨⟨⟨?_,?_,?_⟩,?_,?_⟩,?_,?_⟩,?_,?_⟩,?_,?_⟩
 ·rw[List.pairwise_map];refine((idx_pw 32).filter _).imp fun {a b} hab h=>?_
  have:=(cmpN_eq h).2.1;have:rdS o.address (1+a)=rdS o.address (1+b):=this;unfold rdS at this;omega
 ·rw[List.pairwise_map];refine((idx_pw _).filter _).imp fun {a b} hab h=>?_
  have:=(cmpN_eq h).2.2.2.2.2.2 (by show(4:Int)≠2;omega) (by show(4:Int)≠5;omega)
  have:esV a=esV b:=this;have:=congrArg V10.a9 this;simp only[esV]at this;omega
 ·intro a ha b hb h;have:=(cmpN_eq h).1;rw[m1 a ha,m2 b hb]at this;omega
 ·rw[List.pairwise_map];refine((idx_pw _).filter _).imp fun {a b} hab h=>?_
  have:=(cmpN_eq h).2.2.2.2.2.2 (by show(1:Int)≠2;omega) (by show(1:Int)≠5;omega)
  have:esV a=esV b:=this;have:=congrArg V10.a9 this;simp only[esV]at this;omega
 ·intro a ha b hb h;have:=(cmpN_eq h).1;grind
 ·rw[List.pairwise_flatMap];refine⟨fun s hs=>?_,((idx_pw _).filter _).imp fun {a b} hab x hx y hy h=>?_⟩
  ·rw[List.pairwise_map];have hs2:=(List.mem_filter.1 hs).1;rw[mem_idx]at hs2;have hsm:sgD o.fabric s∈o.fabric.Segments:=(at_inD _ hs2.1 hs2.2).2;rw[hf]at hsm ⊢;have hasc:=(hv.seg _ hsm).2.2.2.2;refine hasc.imp fun {a b} hab h=>?_
   have:=(cmpN_eq h).2.1;have:rdS o.address (1+a)=rdS o.address (1+b):=this;unfold rdS at this;omega
  ·obtain⟨p,-,rfl⟩:=List.mem_map.1 hx;obtain⟨q,-,rfl⟩:=List.mem_map.1 hy;have:=(cmpN_eq h).2.2.2.2.2.2 (by show(1:Int)≠2;omega) (by show(1:Int)≠5;omega)
   have:esV a=esV b:=this;have:=congrArg V10.a9 this;simp only[esV]at this;omega
 ·intro a ha b hb h;have h1:=(cmpN_eq h).1;have h2:=(cmpN_eq h).2.2.1;grind
 ·rw[List.pairwise_flatMap];refine⟨fun n hn=>?_,(useF_pw o o.near).imp fun {a b} hab x hx y hy h=>?_⟩
  ·unfold addrR;split
   ·refine List.pairwise_cons.2 ⟨fun y hy h=>?_,by simp⟩
    simp only[List.mem_singleton]at hy;subst hy;have:=(cmpN_eq h).2.2.2.2.1;have:false=true:=this;cases this
   ·simp
  ·obtain⟨-,e2,-,e4,-⟩:=cmpN_eq h;obtain⟨-,x2,x3⟩:=mem_addr o hx;obtain⟨-,y2,y3⟩:=mem_addr o hy;rw[x2,y2]at e2;rw[x3,y3]at e4;refine hab ?_;unfold plN;rw[e4,show a.BD=b.BD by unfold rdS at e2;omega]
 ·intro a ha b hb h;have h1:=(cmpN_eq h).1;grind
 ·rw[List.pairwise_map];have hall:∀b∈(idx 32).filter (prefB o),0≤b∧(bdD o.fabric b).Subnet.IP=167772160+b*65536:=fun b hb=>by
   have hb2:=(List.mem_filter.1 hb).2;unfold prefB at hb2;simp only[Bool.and_eq_true]at hb2;have hr:=car_bd (o:=o) (by rw[hf];exact gd_of hv) hb2.1
   have hgw:(bdD o.fabric b).Gateway≠0:=by simpa using hb2.2
   have hl:=hv.bds;rw[hf]at hgw hr ⊢;exact⟨hr.1,bdV_ip (bdV_at hv hr.1 hr.2) (by omega) hgw⟩
  refine List.Pairwise.imp_of_mem (fun {a b} ha hb hab h=>?_) ((idx_pw 32).filter (prefB o))
  have:=(cmpN_eq h).2.2.2.2.2.1;have:(bdD o.fabric a).Subnet=(bdD o.fabric b).Subnet:=this;grind
 ·intro a ha b hb h;have h1:=(cmpN_eq h).1;grind
end
theorem check_v(n:Nat)(hn:5000≤n)(f:Fabric)(hv:Vf f):At (c_tenant_Check.S n f) (fun(r:Int×ByteArray×Int)=>r.1=0):=by
 refine(At.eq (r:=checkS f) fun k=>tenant_Check n hn f (vf_small hv) k).mono fun r hr=>?_
 rw[hr,vf_check hv]
theorem routes_x(n:Nat)(hn:5000≤n){f:Fabric}(hv:Vf f){self:Int}{up:List Bool}{near:List Near}{claims:List Claim}(hs:0≤self∧self<f.Leaves)(hu:up.length=f.Segments.length)
 (hne:near.length≤1000) (hcl:claims.length≤1000) (hseq:∀c∈claims,0≤c.Seq∧c.Seq<4294967296):
 At (c_origin_Routes.S n (f,self,up,near,claims)) (fun r:List Route=>r.Perm (allO (mkA f self up near claims))∧r.Pairwise (fun a b=>cmpN a.N b.N<0)):=by
 obtain⟨res,hres⟩:=isortR_some _ (keys_pw hv self up near claims);refine(Routes_at n hn (gd_of hv) (check_v n hn f hv) hs hu hne hcl hseq res hres).mono fun r hr=>?_
 rw[hr];exact isortR_ok _ _ hres
end Go.L
end
section
namespace Go.L
open Go.AM Go.Sort
theorem eq8(x:V8 Int):((x.a0==x.a0)&&((x.a1==x.a1)&&((x.a2==x.a2)&&((x.a3==x.a3)&&((x.a4==x.a4)&&((x.a5==x.a5)&&((x.a6==x.a6)&&((x.a7==x.a7)&&true))))))))=true:=by simp
theorem sameC_at(n:Nat)(l:List (V8 Int))(hn:l.length<n)(hl:l.length<100000):At (c_kit_Same_Comm.S n (l,l)) (fun r:Bool=>r=true):=by
 refine(?_ :AtG n (g_kit_Same_Comm l l) _);unfold g_kit_Same_Comm;refine .skip (.op () rfl (.skip (.op () rfl (.skip (.br (fun h=>(by simp at h)) fun _=>.skip ?_)))))
 refine .loop (fun a:Int=>IdxI l (fun pre (_:Unit)=>True) (a,())) (fun a=>l.length - a.toNat) (Sum.elim (fun _:Unit=>False) fun _=>True) rfl (IdxI.start trivial) (by simp;omega) (fun a ha=>?_) (fun t ht=>?_)
 ·refine .skip (.op () rfl (.skip (.br (fun h=>?_) fun h=>.skip (.done rfl (ha.fin h)))))
  obtain⟨x,pre,h1,h2,h3,-,h4⟩:=ha.get h;refine .skip (.op x h1 (.skip (.op x h1 (.skip (.br (fun h=>(by rw[eq8 x]at h;cases h)) fun _=>.skip (.done rfl (h4 hl () trivial)))))))
 ·cases t with
  |inl t=>exact ht.elim
  |inr t=>exact .skip (.done rfl rfl)
theorem sameI_at(n:Nat)(l:List Int)(hn:l.length<n)(hl:l.length<100000):At (c_kit_Same_int.S n (l,l)) (fun r:Bool=>r=true):=by
 refine(?_ :AtG n (g_kit_Same_int l l) _);unfold g_kit_Same_int;refine .skip (.op () rfl (.skip (.op () rfl (.skip (.br (fun h=>(by simp at h)) fun _=>.skip ?_)))))
 refine .loop (fun a:Int=>IdxI l (fun pre (_:Unit)=>True) (a,())) (fun a=>l.length - a.toNat) (Sum.elim (fun _:Unit=>False) fun _=>True) rfl (IdxI.start trivial) (by simp;omega) (fun a ha=>?_) (fun t ht=>?_)
 ·refine .skip (.op () rfl (.skip (.br (fun h=>?_) fun h=>.skip (.done rfl (ha.fin h)))))
  obtain⟨x,pre,h1,h2,h3,-,h4⟩:=ha.get h;refine .skip (.op x h1 (.skip (.op x h1 (.skip (.br (fun h=>(by simp at h)) fun _=>.skip (.done rfl (h4 hl () trivial)))))))
 ·cases t with
  |inl t=>exact ht.elim
  |inr t=>exact .skip (.done rfl rfl)
theorem kinds_at(n:Nat)(l:List Route)(hn:l.length<n)(hl:l.length<100000):At (c_law32_kinds.S n l) (fun r:List Int=>r=l.map (·.N.Kind)):=by
 refine(?_ :AtG n (g_law32_kinds l) _);unfold g_law32_kinds;refine .skip ?_;refine .loop (fun a:Int×List Int=>IdxI l (fun pre r=>r=pre.map (·.N.Kind)) a) (fun a=>l.length - a.1.toNat) (fun r:List Int=>r=l.map (·.N.Kind)) rfl (IdxI.start rfl) (by simp;omega) (fun a ha=>?_) (fun(t:List Int) ht=>?_)
 ·refine .skip (.op () rfl (.skip (.br (fun h=>?_) fun h=>.skip (.done rfl (ha.fin h)))))
  obtain⟨x,pre,h1,h2,h3,⟨-,post,jl⟩,h4⟩:=ha.get h;have hpl:pre.length≤l.length:=by have:=congrArg List.length jl;simp only[List.length_append]at this;omega
  refine .skip (.op x h1 (.skip (.op () (ifU ⟨rfl,by rw[h3];simp[roomy];omega⟩) (.skip (.done rfl (h4 hl _ (by rw[h3,List.map_append];rfl)))))))
 ·exact .skip (.done (by simp[tsOk,fzRow]) ht)
def chF:Fabric:=Fabric.mk 2 1 [(Link.mk 0 2 1),(Link.mk 1 2 1)] [(Tenant.mk 100 1)] [(BD.mk 0 10 2 (Prefix.mk 167772160 24) 167772161),(BD.mk 0 20 3 (Prefix.mk 0 0) 0)] [(Segment.mk [0] [0,1]),(Segment.mk [0,1] [0])] [] [] 0 0 0 false false (Timers.mk 3 9 100 20 5 50)
theorem chF_gd:Gd chF where
 leaves:=by decide
 elect:=by decide
 segs:=by decide
 bds:=by decide
 seg:=by intro s hs;simp only[chF,List.mem_cons,List.not_mem_nil,or_false]at hs;rcases hs with rfl |rfl<;>exact⟨by decide,by decide,by intro b hb;simp at hb;simp only[chF];rcases hb with rfl |rfl<;>decide⟩
 bd:=by intro s hs;simp only[chF,List.mem_cons,List.not_mem_nil,or_false]at hs;rcases hs with rfl |rfl<;>(unfold inW;simp[chF])
 ten:=by intro s hs;simp only[chF,List.mem_cons,List.not_mem_nil,or_false]at hs;subst hs;unfold inW;simp
theorem chF_check(n:Nat)(hn:5000≤n):At (c_tenant_Check.S n chF) (fun(r:Int×ByteArray×Int)=>r.1=0):=by
 refine(At.eq (r:=checkS chF) fun k=>tenant_Check n hn chF ?_ k).mono fun r hr=>?_
 ·constructor<;>simp[chF]
 ·rw[hr];kernel_rfl
theorem map_some{α β:Type}{o:Option α}{f:α→β}{b:β}(h:o.map f=some b):∃a,o=some a∧f a=b:=Option.map_eq_some_iff.1 h
theorem lives_at(n:Nat)(hn:5000≤n):At (c_law32_lives.S n ()) (fun r:Bool=>r=true):=by
 have e1:(isortR (allO (mkA chF 1 [true,true] [] []))).map (fun r=>r.map (·.N.Kind))=some [1,1,3,4,5]:=by kernel_rfl
 have e2:(isortR (allO (mkA chF 1 [true,false] [] []))).map (fun r=>r.map (·.N.Kind))=some [3,5]:=by kernel_rfl
 obtain⟨q1,a1,b1⟩:=map_some e1;obtain⟨q2,a2,b2⟩:=map_some e2;have l1:q1.length=5:=by have:=congrArg List.length b1;simpa using this
 have l2:q2.length=2:=by have:=congrArg List.length b2;simpa using this
 refine(?_ :AtG n g_law32_lives _);refine .skip (.call (fun f=>f=chF) ⟨_,rfl,rfl⟩ fun r1 h1=>?_)
 subst h1;refine .skip (.tidy rfl (.callR (fun r=>r=q1) (Routes_at n hn chF_gd (chF_check n hn) (by decide) rfl (by simp) (by simp) (by simp) q1 a1) fun r2 h2=>?_))
 subst h2;refine .call (fun r=>r=[1,1,3,4,5]) ((kinds_at n _ (by omega) (by omega)).mono fun r hr=>hr.trans b1) fun r3 h3=>?_
 subst h3;refine .skip (.call _ (sameI_at n _ (by simp;omega) (by simp)) fun r4 h4=>.skip (.br (fun _=>?_) fun h=>(by rw[h4]at h;cases h)))
 refine .skip (.tidy rfl (.callR (fun r=>r=q2) (Routes_at n hn chF_gd (chF_check n hn) (by decide) rfl (by simp) (by simp) (by simp) q2 a2) fun r5 h5=>?_))
 subst h5;refine .call (fun r=>r=[3,5]) ((kinds_at n _ (by omega) (by omega)).mono fun r hr=>hr.trans b2) fun r6 h6=>?_
 subst h6;exact .skip (.call _ (sameI_at n _ (by simp;omega) (by simp)) fun r7 h7=>.skip (.done rfl h7))
end Go.L
end
section
namespace Go.L
open Go.AM Go.Sort
def NOk(x:NLRI):Prop:=
 (x.Kind=1∧x.MAC=0∧x.IP=0∧x.HasIP=false∧x.Prefix=pf0∧x.Gateway=0∧x.Label2=0)∨
 (x.Kind=2∧x.Prefix=pf0∧x.Gateway=0∧(x.HasIP=false→x.IP=0))∨
 (x.Kind=3∧x.ESI=esi0∧x.MAC=0∧x.HasIP=true∧x.Prefix=pf0∧x.Gateway=0∧x.Label=0∧x.Label2=0)∨
 (x.Kind=4∧x.Tag=0∧x.MAC=0∧x.HasIP=true∧x.Prefix=pf0∧x.Gateway=0∧x.Label=0∧x.Label2=0)∨
 (x.Kind=5∧x.MAC=0∧x.IP=0∧x.HasIP=false∧x.Label2=0)
def CleanP(p:Prefix):Prop:=p=pf0∨∃t,0≤t∧t<4∧p=⟨167772160+t*65536,24⟩
structure NIn(x:NLRI):Prop where
 ok:okN x
 form:NOk x
 mac:x.MAC≤281474976710655
 lab:x.Label≤16777215
 lab2:x.Label2≤16777215
 pre:CleanP x.Prefix
def TOk(t:Tunnel):Prop:=t=⟨0,0,0,0⟩∨(∃v g,v≤16777215∧t=⟨3,v,0,g⟩)∨∃v,v≤16777215∧t=⟨6,v,0,0⟩
def atR(A:Int)(l:List (V8 Int))(t:Tunnel):Attrs:=⟨0,[],A,false,0,true,100,false,0,[],l,t⟩
structure CIn(l:List (V8 Int)):Prop where
 len:l.length≤20
 ok:∀c∈l,okC c
 enc:enC∈l
 one:∀c∈l,kindS c=2→c=enC
structure Orig(A:Int)(x:Route):Prop where
 att:∃l t,x.A=atR A (sortU l) t∧CIn l∧TOk t
 peer:x.Peer=0
 stale:x.Stale=false
 rd:∃u,0≤u∧u<65536∧x.N.RD=rdS A u
 n:NIn x.N
theorem taC_ok(t:Int):okC (taC t):=made_ok _ _ _ (by omega) (by omega)
theorem enC_ok:okC enC:=made_ok _ _ _ (by omega) (by omega)
theorem cin_of{m:List (V8 Int)}(hl:m.length≤18)(h:∀c∈m,okC c∧kindS c≠2):CIn (enC::m) where
 len:=by simp;omega
 ok:=fun c hc=>by
  rcases List.mem_cons.1 hc with rfl |hc
  ·exact enC_ok
  ·exact(h c hc).1
 enc:=by simp
 one:=fun c hc hk=>by
  grind
theorem ta_in(t:Int):okC (taC t)∧kindS (taC t)≠2:=⟨taC_ok t,by simp[kindS,taC,madeS]⟩
theorem m6_in(k n:Int)(h0:0≤k)(h1:k<256):okC (madeS 6 k n)∧kindS (madeS 6 k n)≠2:=⟨made_ok _ _ _ (by omega) ⟨h0,h1⟩,by simp[kindS,madeS];repeat' split;all_goals omega⟩
theorem esV_ok{s:Int}(h0:0≤s)(h1:s<60):okE (esV s):=by
 unfold okE esV inW;simp only;omega
section
variable {f:Fabric} (hv:Vf f) {self:Int} (hs:0≤self∧self<f.Leaves) (up:List Bool) {near:List Near} (hnr:∀x∈near,inW x.IP) (claims:List Claim)
include hv hs hnr
theorem orig_of:∀x∈allO (mkA f self up near claims),Orig (lpV self) x:=by
 generalize ho:mkA f self up near claims=o;have hf:o.fabric=f:=by rw[← ho];rfl
 have hA:o.address=lpV self:=by rw[← ho];rfl
 have hnear:o.near=near:=by rw[← ho];rfl
 have hLv:=hv.leaves;have hB:=hv.bds;have hT:=hv.tenants;have hS:=hv.segments;have hAW:inW (lpV self):=by unfold inW lpV;omega
 have hbd:∀{b:Int},0≤b→b<(f.BDs.length:Int)→(bdD o.fabric b).VNI≤16777215:=fun {b} h0 h1=>by
  rw[hf];have:=(bdV_at hv h0 h1).2.2.1;omega
 have hsh:∀{s:Int},s∈shL o→0≤s∧s<60∧sgD f s∈f.Segments:=fun {s} h=>by
  have:=(List.mem_filter.1 h).1;rw[mem_idx,hf]at this;exact⟨this.1,by omega,(at_inD _ this.1 this.2).2⟩
 intro x hx;unfold allO at hx;rw[← hA]at hAW ⊢;rcases List.mem_append.1 hx with hx |hx
 ·rcases List.mem_append.1 hx with hx |hx
  ·rcases List.mem_append.1 hx with hx |hx
   ·rcases List.mem_append.1 hx with hx |hx
    ·rcases List.mem_append.1 hx with hx |hx
     ·obtain⟨b,hb,rfl⟩:=List.mem_map.1 hx;obtain⟨b0,b1⟩:=car_bd (o:=o) (by rw[hf];exact gd_of hv) (List.mem_filter.1 hb).2
      rw[hf]at b1;have hvn:=hbd b0 b1;refine⟨⟨_,_,rfl,cin_of (m:=[taC (bdD o.fabric b).Target]) (by simp) (by simp only[List.mem_singleton];rintro c rfl;exact ta_in _),?_⟩,rfl,rfl,⟨1+b,by omega,by omega,rfl⟩,⟨⟨okE0,inW0,hAW,inW0,inW0⟩,.inr (.inr (.inl ⟨rfl,rfl,rfl,rfl,rfl,rfl,rfl,rfl⟩)),by show(0:Int)≤_;omega,by show(0:Int)≤_;omega,by show(0:Int)≤_;omega,.inl rfl⟩⟩
      split
      ·exact .inr (.inl ⟨_,_,hvn,rfl⟩)
      ·exact .inr (.inr ⟨_,hvn,rfl⟩)
     ·obtain⟨s,hs',rfl⟩:=List.mem_map.1 hx;obtain⟨s0,s1,-⟩:=hsh hs';exact⟨⟨_,_,rfl,cin_of (m:=[madeS 6 2 0,madeS 6 6 (o.fabric.Elect*1099511627776+(32767 - o.self))]) (by simp) (by simp only[List.mem_cons,List.not_mem_nil,or_false];rintro c (rfl |rfl)<;>exact m6_in _ _ (by omega) (by omega)),.inl rfl⟩,rfl,rfl,⟨0,by omega,by omega,rfl⟩,⟨⟨esV_ok s0 s1,inW0,hAW,inW0,inW0⟩,.inr (.inr (.inr (.inl ⟨rfl,rfl,rfl,rfl,rfl,rfl,rfl,rfl⟩))),by show(0:Int)≤_;omega,by show(0:Int)≤_;omega,by show(0:Int)≤_;omega,.inl rfl⟩⟩
    ·obtain⟨s,hs',rfl⟩:=List.mem_map.1 hx;obtain⟨s0,s1,hm⟩:=hsh hs';have hbl:=(hv.seg _ hm).2.2.1;exact⟨⟨_,_,rfl,cin_of (m:=[madeS 6 1 (s+1)]++(sgD o.fabric s).BDs.map fun b=>taC (bdD o.fabric b).Target) (by rw[hf];simp;omega) (by
      intro c hc;rcases List.mem_append.1 hc with hc |hc
      ·simp only[List.mem_singleton]at hc;subst hc;exact m6_in _ _ (by omega) (by omega)
      ·obtain⟨b,-,rfl⟩:=List.mem_map.1 hc;exact ta_in _),.inl rfl⟩,rfl,rfl,⟨0,by omega,by omega,rfl⟩,⟨⟨esV_ok s0 s1,by show inW 4294967295;unfold inW;omega,inW0,inW0,inW0⟩,.inl ⟨rfl,rfl,rfl,rfl,rfl,rfl,rfl⟩,by show(0:Int)≤_;omega,by show(0:Int)≤_;omega,by show(0:Int)≤_;omega,.inl rfl⟩⟩
   ·obtain⟨s,hs',hx⟩:=List.mem_flatMap.1 hx;obtain⟨b,hb,rfl⟩:=List.mem_map.1 hx;obtain⟨s0,s1,hm⟩:=hsh hs';rw[hf]at hb;obtain⟨b0,b1⟩:=(hv.seg _ hm).2.2.2.1 b hb;exact⟨⟨_,_,rfl,cin_of (m:=[taC (bdD o.fabric b).Target]) (by simp) (by simp only[List.mem_singleton];rintro c rfl;exact ta_in _),.inl rfl⟩,rfl,rfl,⟨1+b,by omega,by omega,rfl⟩,⟨⟨esV_ok s0 s1,inW0,inW0,inW0,inW0⟩,.inl ⟨rfl,rfl,rfl,rfl,rfl,rfl,rfl⟩,by show(0:Int)≤_;omega,hbd b0 b1,by show(0:Int)≤_;omega,.inl rfl⟩⟩
  ·obtain⟨m,hm,hx⟩:=List.mem_flatMap.1 hx;obtain⟨hok,hmn⟩:=useF_mem o hm;rw[hnear]at hmn;unfold okO at hok;simp only[Bool.and_eq_true,decide_eq_true_eq]at hok;obtain⟨k1,k2,-,k4,-,k6⟩:=hok;unfold liveO at k1;simp only[Bool.and_eq_true,decide_eq_true_eq]at k1;obtain⟨j1,-,-,j4⟩:=k1;have hsg:sgD f m.Segment∈f.Segments∧m.Segment<60:=by
    rw[hf]at k2;by_cases h:m.Segment<(f.Segments.length:Int)
    ·exact⟨(at_inD _ j1 h).2,by omega⟩
    ·exfalso;have:at? f.Segments m.Segment=none:=by unfold at?;rw[if_pos j1];exact List.getElem?_eq_none (by omega)
     unfold sgD at k2;rw[this]at k2;cases k2
   obtain⟨b0,b1⟩:=(hv.seg _ hsg.1).2.2.2.1 m.BD (by rw[hf]at k2;exact elI_iff.1 k2)
   have hes:okE (esO o m.Segment):=by
    unfold esO;split
    ·exact okE0
    ·exact esV_ok j1 hsg.2
   have hmb:∀c∈mobL (seqO o m),okC c∧kindS c≠2:=by
    intro c hc;unfold mobL at hc;split at hc
    ·cases hc
    ·simp only[List.mem_singleton]at hc;subst hc;exact m6_in _ _ (by omega) (by omega)
   have hml:(mobL (seqO o m)).length≤1:=by unfold mobL;split<;>simp
   have hR:Orig o.address (macR o m):=
    ⟨⟨_,_,rfl,cin_of (m:=[taC (bdD o.fabric m.BD).Target]++mobL (seqO o m)) (by simp;omega) (by
     intro c hc;rcases List.mem_append.1 hc with hc |hc
     ·simp only[List.mem_singleton]at hc;subst hc;exact ta_in _
     ·exact hmb c hc),.inl rfl⟩,rfl,rfl,⟨1+m.BD,by omega,by omega,rfl⟩,⟨⟨hes,inW0,inW0,inW0,inW0⟩,.inr (.inl ⟨rfl,rfl,rfl,fun _=>rfl⟩),k4,hbd b0 b1,by show(0:Int)≤_;omega,.inl rfl⟩⟩
   have hbv:=bdV_at hv b0 b1;have htn:(tnB o m).VNI≤16777215:=by unfold tnB;rw[hf,tnV_at hv hbv.1 hbv.2.1];have:=hbv.2.1;show 100+_≤_;omega
   unfold addrR at hx;split at hx
   ·simp only[List.mem_cons,List.not_mem_nil,or_false]at hx;rcases hx with rfl |rfl
    ·exact hR
    ·exact⟨⟨_,_,rfl,cin_of (m:=([taC (bdD o.fabric m.BD).Target]++mobL (seqO o m))++[taC (tnB o m).Target,madeS 6 3 o.router]) (by simp;omega) (by
      intro c hc;rcases List.mem_append.1 hc with hc |hc
      ·rcases List.mem_append.1 hc with hc |hc
       ·simp only[List.mem_singleton]at hc;subst hc;exact ta_in _
       ·exact hmb c hc
      ·simp only[List.mem_cons,List.not_mem_nil,or_false]at hc;rcases hc with rfl |rfl
       ·exact ta_in _
       ·exact m6_in _ _ (by omega) (by omega)),.inl rfl⟩,rfl,rfl,⟨1+m.BD,by omega,by omega,rfl⟩,⟨⟨hes,inW0,hnr m hmn,inW0,inW0⟩,.inr (.inl ⟨rfl,rfl,rfl,fun h=>(by cases h)⟩),k4,hbd b0 b1,htn,.inl rfl⟩⟩
   grind
 ·obtain⟨b,hb,rfl⟩:=List.mem_map.1 hx;have hb2:=(List.mem_filter.1 hb).2;unfold prefB at hb2;simp only[Bool.and_eq_true]at hb2;obtain⟨b0,b1⟩:=car_bd (o:=o) (by rw[hf];exact gd_of hv) hb2.1
  rw[hf]at b1;have hbv:=bdV_at hv b0 b1;have htn:(tnD o.fabric (bdD o.fabric b).Tenant).VNI≤16777215:=by rw[hf,tnV_at hv hbv.1 hbv.2.1];have:=hbv.2.1;show 100+_≤_;omega
  have hcl:CleanP (bdD o.fabric b).Subnet:=by
   rw[hf];rcases hbv.2.2.2.2 with h |h
   ·exact .inl h.1
   ·exact .inr ⟨b,b0,by omega,h.1⟩
  have hpi:inW (bdD o.fabric b).Subnet.IP:=by
   rcases hcl with e |⟨t,t0,t1,e⟩<;>rw[e]<;>unfold inW<;>simp only[pf0]<;>omega
  have ht0:0≤(bdD o.fabric b).Tenant∧(bdD o.fabric b).Tenant<3:=by rw[hf];have:=hbv.1;have:=hbv.2.1;omega
  exact⟨⟨_,_,rfl,cin_of (m:=[taC (tnD o.fabric (bdD o.fabric b).Tenant).Target,madeS 6 3 o.router]) (by simp) (by
   simp only[List.mem_cons,List.not_mem_nil,or_false];rintro c (rfl |rfl)
   ·exact ta_in _
   ·exact m6_in _ _ (by omega) (by omega)),.inl rfl⟩,rfl,rfl,⟨1001+(bdD o.fabric b).Tenant,by omega,by omega,rfl⟩,⟨⟨okE0,inW0,inW0,hpi,inW0⟩,.inr (.inr (.inr (.inr ⟨rfl,rfl,rfl,rfl,rfl⟩))),by show(0:Int)≤_;omega,htn,by show(0:Int)≤_;omega,hcl⟩⟩
end
end Go.L
end
