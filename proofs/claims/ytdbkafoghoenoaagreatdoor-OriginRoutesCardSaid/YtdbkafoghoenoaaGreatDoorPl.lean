/- Parts put together. No conditions. -/
import Derived.Test.YtdbkafoghoenoaaGreatDoorPv
import Derived.Test.YtdbkafoghoenoaaGreatDoorWk
import Derived.Test.YtdbkafoghoenoaaGreatDoorWl
set_option linter.unusedSimpArgs false
set_option linter.unusedVariables false
set_option maxRecDepth 100000
section
namespace Go.L
open Go.AM
theorem wrap_u32(x:Int):IntKind.wrap .u32 x=x % 4294967296:=by
 simp[IntKind.wrap,IntKind.bits,IntKind.signed]
theorem wrap_bv(x:BitVec 32):IntKind.wrap .u32 (x.toNat:Int)=(x.toNat:Int):=by
 rw[wrap_u32];have:=x.isLt;omega
theorem ofInt_toNat(x:BitVec 32):BitVec.ofInt 32 (x.toNat:Int)=x:=by
 apply BitVec.eq_of_toNat_eq;rw[BitVec.toNat_ofInt];have:=x.isLt;omega
theorem xor_and_zero(a b m:BitVec 32):(a ^^^ b)&&& m=0↔a&&& m=b&&& m:=by
 constructor
 ·intro h;apply BitVec.eq_of_getElem_eq;intro i hi;have:=congrArg (fun v:BitVec 32=>v[i]) h
  simp only[BitVec.getElem_and,BitVec.getElem_xor,BitVec.getElem_zero]at this ⊢
  revert this;cases a[i]<;>cases b[i]<;>cases m[i]<;>simp
 ·intro h;apply BitVec.eq_of_getElem_eq;intro i hi;have:=congrArg (fun v:BitVec 32=>v[i]) h
  simp only[BitVec.getElem_and,BitVec.getElem_xor,BitVec.getElem_zero]at this ⊢
  revert this;cases a[i]<;>cases b[i]<;>cases m[i]<;>simp
theorem band_xor(a b m:Int):(band (bxor a b) m==0)=(band a m==band b m):=by
 unfold band bxor;simp only[wrap_bv,ofInt_toNat];rw[Bool.eq_iff_iff];simp only[beq_iff_eq];constructor
 ·intro h;have h2:((BitVec.ofInt 32 a ^^^ BitVec.ofInt 32 b)&&& BitVec.ofInt 32 m)=0:=by
   apply BitVec.eq_of_toNat_eq;simpa using h
  rw[(xor_and_zero _ _ _).1 h2]
 ·intro h;have h2:(BitVec.ofInt 32 a&&& BitVec.ofInt 32 m)=(BitVec.ofInt 32 b&&& BitVec.ofInt 32 m):=by
   apply BitVec.eq_of_toNat_eq;omega
  rw[(xor_and_zero _ _ _).2 h2];rfl
section
variable {β:Type} (n:Nat)
theorem ref_valid(p:Prefix)(k:c_ref01_valid.sh.El→Option β):(c_ref01_valid.S n p).bind k=k (okPre p):=by
 have:c_ref01_valid.S n p=some (okPre p):=by
  show(g_ref01_valid p).run n=_;simp only[g_ref01_valid,G.run,tsOk,okPre,ge_iff_le];by_cases h:0≤p.Len<;>simp[h]<;>rfl
 rw[this];rfl
theorem ref_mask(x:Int)(h0:0≤x)(h1:x≤32)(k:c_ref01_mask.sh.El→Option β):(c_ref01_mask.S n x).bind k=k (maskP x):=by
 have:c_ref01_mask.S n x=some (maskR x):=by
  show(g_ref01_mask x).run n=_;simp only[g_ref01_mask,G.run,tsOk,shlO_bind];rw[if_pos (by rw[wrap32 h0 h1];simp;omega)]
  rfl
 rw[this,mask_eq h0 h1];rfl
theorem ref_Contains(p:Prefix)(ip:Int)(k:c_ref01_Contains.sh.El→Option β):(c_ref01_Contains.S n (p,ip)).bind k=k (containsS p ip):=by
 have:c_ref01_Contains.S n (p,ip)=some (containsS p ip):=by
  show(g_ref01_Contains p ip).run n=_;simp only[g_ref01_Contains,G.run,tsOk,ref_valid,containsS,band_xor];by_cases h:okPre p=true
  ·simp only[h,if_true,Bool.true_and];simp only[okPre,Bool.and_eq_true,decide_eq_true_eq]at h;simp only[ref_mask n p.Len h.1 h.2];rfl
  ·simp[h];rfl
 rw[this];rfl
end
end Go.L
end
section
namespace Go.L
open Go.AM
theorem bind_any{α γ:Type}{n:Nat}(l:List α)(i:Nat)(p:α→Bool){f:Int→Option (Int⊕(Unit⊕Unit))}{k:Unit⊕Unit→Option γ}(hn:l.length<n)(hi:i≤l.length)
 (hf:∀(j:Nat) x,j<i→l[j]? =some x→f (j:Int)=some (if p x=true then .inr (.inl ())else .inl ((j+1:Nat):Int))) (he:f (i:Int)=some (.inr (.inr ()))):
 (iterO f n 0).bind k=if(l.take i).any p=true then k (.inl ())else k (.inr ()):=by
 have hl:(l.take i).length=i:=by simp;omega
 refine Eq.trans (bind_firstS' (fun j=>(j:Int)) (l.take i) (fun _ x=>if p x=true then 1 else 0) (fun _ _=>k (.inl ())) (k (.inr ())) rfl (by omega) (fun j x hx _ hE=>?_) (fun j x hx _ hE=>?_) (fun _=>?_)) ?_
 ·grind
 ·grind
 ·grind
 ·generalize l.take i=m;have key:∀(m:List α) (j:Nat),(match firstErr (fun _ x=>if p x=true then(1:Int)else 0) j m with |none=>k (.inr ()) |some (_,_)=>k (.inl ()))=if m.any p=true then k (.inl ())else k (.inr ()):=by
   intro m;induction m with
   |nil=>intro j;rfl
   |cons x xs ih=>
    grind [firstErr]
  exact key m 0
theorem flag_any{α K:Type}[DecidableEq K](key:α→K)(l:List α)(i:Nat)(x:α)(hx:l[i]? =some x):(flagsF key [] l).getD i false=(l.take i).any fun y=>decide (key y=key x):=by
 grind [flagsF_get]
theorem ref_within{β:Type}(n:Nat)(x lo hi:Int)(k:c_ref22_within.sh.El→Option β):(c_ref22_within.S n (x,lo,hi)).bind k=k (!out x lo hi):=by
 have:c_ref22_within.S n (x,lo,hi)=some (!out x lo hi):=by
  show(g_ref22_within x lo hi).run n=_;simp only[g_ref22_within,G.run,tsOk,out,ge_iff_le];by_cases h:lo≤x
  ·have h2:¬x<lo:=by omega
   have h3:decide (x≤hi)= !decide (hi<x):=by by_cases h:x≤hi<;>simp[h]<;>omega
   simp only[h,h2,decide_true,decide_false,if_true,Bool.false_or,h3];rfl
  ·have h2:x<lo:=by omega
   simp only[h,h2,decide_true,decide_false,if_false,Bool.true_or,Bool.not_true,Bool.false_eq_true];rfl
 rw[this];rfl
def errIf(b:Bool):Int:=match b with |true=>2|false=>0
theorem ref_numbers{β:Type}(n:Nat)(f:Fabric)(k:c_ref22_numbers.sh.El→Option β):(c_ref22_numbers.S n f).bind k=k (errIf (badFabric f)):=by
 have:c_ref22_numbers.S n f=some (errIf (badFabric f)):=by
  show(g_ref22_numbers f).run n=_;simp only[g_ref22_numbers,G.run,tsOk,ref_within,Bool.not_not,gt_iff_lt,if_true];by_cases h1:out f.Leaves 1 32=true
  ·have:badFabric f=true:=by simp[badFabric,h1]
   rw[this,if_pos h1];rfl
  rw[if_neg h1];by_cases h2:out f.Spines 0 32=true
  ·have:badFabric f=true:=by simp[badFabric,h2]
   rw[this,if_pos h2];rfl
  rw[if_neg h2];by_cases h3:decide (32<IntKind.wrap .i64 (f.Leaves+f.Spines))=true
  ·have:badFabric f=true:=by simp only[badFabric,h3,Bool.or_true,Bool.true_or]
   rw[this,if_pos h3];rfl
  rw[if_neg h3];by_cases h4:out f.Elect 0 2=true
  ·have:badFabric f=true:=by simp only[badFabric,h4,Bool.or_true,Bool.true_or]
   rw[this,if_pos h4];rfl
  rw[if_neg h4];by_cases h5:out f.Horizon 0 1=true
  ·have:badFabric f=true:=by simp only[badFabric,h5,Bool.or_true,Bool.true_or]
   rw[this,if_pos h5];rfl
  rw[if_neg h5];by_cases h6:out f.Router 0 1=true
  ·have:badFabric f=true:=by simp only[badFabric,h6,Bool.or_true]
   rw[this,if_pos h6];rfl
  rw[if_neg h6];simp only[Bool.not_eq_true]at h1 h2 h3 h4 h5 h6;have:badFabric f=false:=by simp only[badFabric,h1,h2,h3,h4,h5,h6,Bool.or_self]
  rw[this];rfl
 rw[this];rfl
theorem ref_timers{β:Type}(n:Nat)(t:Timers)(k:c_ref22_timers.sh.El→Option β):(c_ref22_timers.S n t).bind k=k (errIf (badTimers t)):=by
 have:c_ref22_timers.S n t=some (errIf (badTimers t)):=by
  show(g_ref22_timers t).run n=_;simp only[g_ref22_timers,G.run,tsOk,ref_within,Bool.not_not,gt_iff_lt,if_true];by_cases h1:out t.Detect 1 100=true
  ·have:badTimers t=true:=by simp[badTimers,h1]
   rw[this,if_pos h1];rfl
  rw[if_neg h1];by_cases h2:out t.Hold 3 1000=true
  ·have:badTimers t=true:=by simp[badTimers,h2]
   rw[this,if_pos h2];rfl
  rw[if_neg h2];by_cases h3:out t.Age 1 10000=true
  ·have:badTimers t=true:=by simp only[badTimers,h3,Bool.or_true,Bool.true_or]
   rw[this,if_pos h3];rfl
  rw[if_neg h3];by_cases h4:out t.Restart 0 1000=true
  ·have:badTimers t=true:=by simp only[badTimers,h4,Bool.or_true,Bool.true_or]
   rw[this,if_pos h4];rfl
  rw[if_neg h4];by_cases h5:out t.Moves 1 100=true
  ·have:badTimers t=true:=by simp only[badTimers,h5,Bool.or_true,Bool.true_or]
   rw[this,if_pos h5];rfl
  rw[if_neg h5];by_cases h6:out t.Window 1 10000=true
  ·have:badTimers t=true:=by simp only[badTimers,h6,Bool.or_true]
   rw[this,if_pos h6];rfl
  rw[if_neg h6];simp only[Bool.not_eq_true]at h1 h2 h3 h4 h5 h6;have:badTimers t=false:=by simp only[badTimers,h1,h2,h3,h4,h5,h6,Bool.or_self]
  rw[this];rfl
 rw[this];rfl
theorem ref_tenant{β:Type}(n:Nat)(f:Fabric)(i:Nat)(x:Tenant)(hx:f.Tenants[i]? =some x)(hn:f.Tenants.length<n)(hs:f.Tenants.length≤4000)(k:c_ref22_tenant.sh.El→Option β):
 (c_ref22_tenant.S n (f,(i:Int))).bind k=k (tenantE (flagsF (fun x:Tenant=>x.VNI) [] f.Tenants) (flagsF (fun x:Tenant=>x.Target) [] f.Tenants) i x):=by
 have:c_ref22_tenant.S n (f,(i:Int))=some (tenantE (flagsF (fun x:Tenant=>x.VNI) [] f.Tenants) (flagsF (fun x:Tenant=>x.Target) [] f.Tenants) i x):=by
  show(g_ref22_tenant f (i:Int)).run n=_;have hi:=(List.getElem?_eq_some_iff.1 hx).1;simp only[g_ref22_tenant,G.run,tsOk,idxO_bind,at?_nat,hx,Option.bind_some,tenantE,flag_any _ _ _ _ hx,gt_iff_lt];cases decide (x.VNI<1)
  case true=>rfl
  cases decide (16777215<x.VNI)
  case true=>rfl
  cases(x.Target==0)
  case true=>rfl
  simp only[Bool.false_eq_true,if_false,if_true];refine Eq.trans (bind_any f.Tenants i (fun y=>y.VNI==x.VNI||y.Target==x.Target) hn (by omega) (fun j y hj hy=>?_) ?_) ?_
  ·have hlt:(j:Int)<(i:Int):=by omega
   simp only[hlt,decide_true,if_true,at?_nat,hy,Option.bind_some,wrap_nat (show j<9223372036854775807 by omega)]
   cases(y.VNI==x.VNI)<;>cases(y.Target==x.Target)<;>rfl
  ·simp;rfl
  ·have e:((f.Tenants.take i).any fun y=>y.VNI==x.VNI||y.Target==x.Target)=(((f.Tenants.take i).any fun y=>decide (y.VNI=x.VNI))||((f.Tenants.take i).any fun y=>decide (y.Target=x.Target))):=by
    generalize f.Tenants.take i=m;induction m with
    |nil=>rfl
    |cons a m ih=>
     grind
   rw[e];cases((f.Tenants.take i).any fun y=>decide (y.VNI=x.VNI))<;>cases((f.Tenants.take i).any fun y=>decide (y.Target=x.Target))<;>rfl
 rw[this];rfl
end Go.L
namespace Go.L
open Go.AM
theorem toNat_ofInt32{x:Int}(h0:0≤x)(h1:x≤4294967295):((BitVec.ofInt 32 x).toNat:Int)=x:=by
 rw[BitVec.toNat_ofInt];omega
theorem last_or{p:Prefix}(h0:0≤p.IP)(h1:p.IP≤4294967295)(hc:cleanS p=true):IntKind.wrap .u32 (p.IP+lowP p.Len)=bor p.IP (lowP p.Len):=by
 simp only[cleanS,okPre,Bool.and_eq_true,decide_eq_true_eq,beq_iff_eq]at hc;obtain⟨⟨l0,l1⟩,hb⟩:=hc;rw[← mask_eq l0 l1]at hb;generalize hlow:lowP p.Len=low at*;have hlr:0≤low∧low≤4294967295:=by
  rw[← hlow];unfold lowP;rw[wrap_u32];omega
 unfold band at hb;rw[wrap_bv]at hb;have hm:BitVec.ofInt 32 (maskR p.Len)=BitVec.ofInt 32 4294967295 ^^^ BitVec.ofInt 32 low:=by
  unfold maskR;rw[hlow,wrap_bv,ofInt_toNat]
 rw[hm]at hb;have hA:(BitVec.ofInt 32 p.IP&&& (BitVec.ofInt 32 4294967295 ^^^ BitVec.ofInt 32 low))=BitVec.ofInt 32 p.IP:=by
  apply BitVec.eq_of_toNat_eq;have:=toNat_ofInt32 h0 h1;omega
 have hz:BitVec.ofInt 32 p.IP&&& BitVec.ofInt 32 low=0:=by
  apply BitVec.eq_of_getElem_eq;intro i hi;have:=congrArg (fun v:BitVec 32=>v[i]) hA
  have hone:(BitVec.ofInt 32 4294967295)[i]=true:=by
   have:BitVec.ofInt 32 4294967295=BitVec.allOnes 32:=by decide
   simp only[this,BitVec.getElem_allOnes]
  simp only[BitVec.getElem_and,BitVec.getElem_xor,hone,BitVec.getElem_zero]at this ⊢
  revert this;cases(BitVec.ofInt 32 p.IP)[i]<;>cases(BitVec.ofInt 32 low)[i]<;>simp
 unfold bor;rw[wrap_bv,← BitVec.add_eq_or_of_and_eq_zero _ _ hz,wrap_u32,BitVec.toNat_add];have e1:=toNat_ofInt32 h0 h1;have e2:=toNat_ofInt32 hlr.1 hlr.2;omega
end Go.L
namespace Go.L
open Go.AM
section
variable {β:Type} (n:Nat)
theorem ref_Clean(p:Prefix)(k:c_ref01_Clean.sh.El→Option β):(c_ref01_Clean.S n p).bind k=if okPre p=true then k (⟨band p.IP (maskP p.Len),p.Len⟩,0)else k (⟨0,0⟩,2):=by
 have:c_ref01_Clean.S n p=some (if okPre p=true then(⟨band p.IP (maskP p.Len),p.Len⟩,0)else(⟨0,0⟩,2)):=by
  show(g_ref01_Clean p).run n=_;simp only[g_ref01_Clean,G.run,tsOk,ref_valid];by_cases h:okPre p=true
  ·simp only[h,Bool.not_true,Bool.false_eq_true,if_false,if_true];simp only[okPre,Bool.and_eq_true,decide_eq_true_eq]at h;rw[ref_mask n p.Len h.1 h.2];rfl
  ·simp[h];rfl
 rw[this];split<;>rfl
theorem ref_clean(p:Prefix)(k:c_ref22_clean.sh.El→Option β):(c_ref22_clean.S n p).bind k=k (cleanS p):=by
 have:c_ref22_clean.S n p=some (cleanS p):=by
  show(g_ref22_clean p).run n=_;simp only[g_ref22_clean,G.run,tsOk,ref_Clean,cleanS];by_cases h:okPre p=true<;>simp[h]<;>rfl
 rw[this];rfl
theorem ref_last(p:Prefix)(hp:okPre p=true)(k:c_ref22_last.sh.El→Option β):(c_ref22_last.S n p).bind k=k (IntKind.wrap .u32 (p.IP+lowP p.Len)):=by
 have:c_ref22_last.S n p=some (IntKind.wrap .u32 (p.IP+lowP p.Len)):=by
  show(g_ref22_last p).run n=_;simp only[okPre,Bool.and_eq_true,decide_eq_true_eq]at hp;simp only[g_ref22_last,G.run,tsOk,shlO_bind];rw[if_pos (by rw[wrap32 hp.1 hp.2];simp;omega)]
  rfl
 rw[this];rfl
theorem ref_overlap(p q:Prefix)(k:c_ref22_overlap.sh.El→Option β):(c_ref22_overlap.S n (p,q)).bind k=k (containsS p q.IP||containsS q p.IP):=by
 have:c_ref22_overlap.S n (p,q)=some (containsS p q.IP||containsS q p.IP):=by
  show(g_ref22_overlap p q).run n=_;simp only[g_ref22_overlap,G.run,tsOk,ref_Contains];by_cases h:containsS p q.IP=true
  ·simp[h];rfl
  ·simp only[h,Bool.false_eq_true,if_false,Bool.false_or];simp at h;simp[h];rfl
 rw[this];rfl
theorem bit_one(x:Int):((IntKind.wrap .u64 (((BitVec.ofInt 64 x)&&& (BitVec.ofInt 64 1)).toNat:Int))==(1:Int))=((IntKind.wrap .u64 (((BitVec.ofInt 64 x)&&& (BitVec.ofInt 64 1)).toNat:Int)) != 0):=by
 have h1:((BitVec.ofInt 64 x)&&& (BitVec.ofInt 64 1)).toNat≤1:=by
  rw[BitVec.toNat_and];have:(BitVec.ofInt 64 1).toNat=1:=by decide
  rw[this];exact Nat.and_le_right
 generalize ((BitVec.ofInt 64 x)&&& (BitVec.ofInt 64 1)).toNat=m at*;have:m=0∨m=1:=by omega
 rcases this with rfl |rfl<;>decide
theorem ref_Multicast(m:Int)(k:c_ref01_Multicast.sh.El→Option β):(c_ref01_Multicast.S n m).bind k=k (castM m):=by
 have:c_ref01_Multicast.S n m=some (castM m):=by
  show(g_ref01_Multicast m).run n=_;have e:=bit_one (Int.fdiv m ((2:Int) ^ (min (Int.toNat (40:Int)) (IntKind.bits .u64))));simp only[g_ref01_Multicast,G.run,tsOk,castM];rw[← e];by_cases h:m≤281474976710655
  ·simp only[h,decide_true,if_true,Bool.true_and];rfl
  ·simp only[h,decide_false,if_false,Bool.false_and,Bool.false_eq_true];rfl
 rw[this];rfl
theorem ref_RouterNode(m:Int)(k:c_ref01_RouterNode.sh.El→Option β):(c_ref01_RouterNode.S n m).bind k=if routerM m=true then k (IntKind.wrap .i64 (IntKind.wrap .u64 (m - 2199023255552)),true)else k (0,false):=by
 have:c_ref01_RouterNode.S n m=some (if routerM m=true then(IntKind.wrap .i64 (IntKind.wrap .u64 (m - 2199023255552)),true)else(0,false)):=by
  show(g_ref01_RouterNode m).run n=_;simp only[g_ref01_RouterNode,G.run,tsOk,routerM];by_cases h:m<2199023255552
  ·simp[h];rfl
  ·by_cases h2:m≥2199023255584
   ·simp[h,h2];rfl
   ·simp only[h,h2,decide_false,Bool.not_false,Bool.and_self,Bool.false_eq_true,if_false,if_true];rfl
 rw[this];split<;>rfl
theorem ref_ascending(l:List Int)(hn:l.length<n)(hs:l.length≤4000)(k:c_ref22_ascending.sh.El→Option β):(c_ref22_ascending.S n l).bind k=k (ascB l):=by
 have e:c_ref22_ascending.S n l=c_tenant_ascending.S n l:=rfl;exact(congrArg (fun o=>Option.bind o k) e).trans (tenant_ascending n l hn hs k)
theorem ref_has(l:List Int)(v:Int)(hn:l.length<n)(hs:l.length≤4000)(k:c_ref22_has.sh.El→Option β):(c_ref22_has.S n (l,v)).bind k=k (l.any fun x=>x==v):=by
 have:c_ref22_has.S n (l,v)=some (l.any fun x=>x==v):=by
  show(g_ref22_has l v).run n=_;simp only[g_ref22_has,G.run,tsOk,idxO_bind,lenO_bind];refine Eq.trans (bind_any l l.length (fun x=>x==v) hn (by omega) (fun j y hj hy=>?_) ?_) ?_
  ·have hlt:(j:Int)<(l.length:Int):=by omega
   simp only[hlt,decide_true,if_true,at?_nat,hy,Option.bind_some,wrap_nat (show j<9223372036854775807 by omega)]
   cases(y==v)<;>rfl
  ·simp;rfl
  ·rw[List.take_length];cases(l.any fun x=>x==v)<;>rfl
 rw[this];rfl
end
end Go.L
namespace Go.L
open Go.AM
theorem out_lt(x m:Int)(h0:0≤m)(h1:m≤4000):out x 0 (IntKind.wrap .i64 (m - 1))= !(decide (0≤x)&&decide (x<m)):=by
 rw[okSub m h0 h1];unfold out;grind
theorem any_or{α:Type}(l:List α)(p q:α→Bool):(l.any fun y=>p y||q y)=(l.any p||l.any q):=by
 grind
theorem ref_leak{β:Type}(n:Nat)(f:Fabric)(i:Nat)(x:Leak)(hx:f.Leaks[i]? =some x)(hn:f.Leaks.length<n)(hs:f.Leaks.length≤4000)(ht:f.Tenants.length≤4000)(k:c_ref22_leak.sh.El→Option β):
 (c_ref22_leak.S n (f,(i:Int))).bind k=k (leakE f (flagsF (fun x:Leak=>x) [] f.Leaks) i x):=by
 have:c_ref22_leak.S n (f,(i:Int))=some (leakE f (flagsF (fun x:Leak=>x) [] f.Leaks) i x):=by
  show(g_ref22_leak f (i:Int)).run n=_;have hi:=(List.getElem?_eq_some_iff.1 hx).1;simp only[g_ref22_leak,G.run,tsOk,idxO_bind,lenO_bind,at?_nat,hx,Option.bind_some,leakE,flag_any _ _ _ _ hx,ref_within,ref_clean,Bool.not_not,out_lt _ _ (show(0:Int)≤(f.Tenants.length:Int)by omega) (show(f.Tenants.length:Int)≤4000 by omega)]
  cases(decide (0≤x.From)&&decide (x.From<(f.Tenants.length:Int)))
  case false=>rfl
  cases(decide (0≤x.To)&&decide (x.To<(f.Tenants.length:Int)))
  case false=>rfl
  cases(x.From==x.To)
  case true=>rfl
  cases cleanS x.Prefix
  case false=>rfl
  simp only[Bool.not_true,Bool.false_eq_true,if_false,if_true];refine Eq.trans (bind_any f.Leaks i (fun y=>decide (y=x)) hn (by omega) (fun j y hj hy=>?_) ?_) ?_
  ·have hlt:(j:Int)<(i:Int):=by omega
   have e:decide (y=x)=(y.From==x.From&&(y.To==x.To&&(y.Prefix.IP==x.Prefix.IP&&(y.Prefix.Len==x.Prefix.Len&&true)))):=by
    rw[Bool.eq_iff_iff];rcases y with⟨_,_,⟨_,_⟩⟩;rcases x with⟨_,_,⟨_,_⟩⟩;simp
   simp only[hlt,decide_true,if_true,at?_nat,hy,Option.bind_some,wrap_nat (show j<9223372036854775807 by omega),e]
   split<;>rfl
  ·simp;rfl
  ·cases((f.Leaks.take i).any fun y=>decide (y=x))<;>rfl
 rw[this];rfl
theorem ref_link{β:Type}(n:Nat)(f:Fabric)(i:Nat)(x:Link)(hx:f.Links[i]? =some x)(hn:f.Links.length<n)(hs:f.Links.length≤4000)(hl:1≤f.Leaves∧f.Leaves≤32∧0≤f.Spines∧f.Spines≤32)(k:c_ref22_link.sh.El→Option β):
 (c_ref22_link.S n (f,(i:Int))).bind k=k (linkE f (flagsF (fun x:Link=>(⟨x.A,x.B⟩:V2 Int)) [] f.Links) i x):=by
 have:c_ref22_link.S n (f,(i:Int))=some (linkE f (flagsF (fun x:Link=>(⟨x.A,x.B⟩:V2 Int)) [] f.Links) i x):=by
  show(g_ref22_link f (i:Int)).run n=_;have hi:=(List.getElem?_eq_some_iff.1 hx).1;have hw:IntKind.wrap .i64 (f.Leaves+f.Spines)=f.Leaves+f.Spines:=wrap_i64 (by omega) (by omega)
  have hw2:IntKind.wrap .i64 (f.Leaves+f.Spines - 1)=f.Leaves+f.Spines - 1:=wrap_i64 (by omega) (by omega)
  have e1:out x.B f.Leaves (f.Leaves+f.Spines - 1)= !(decide (x.B≥f.Leaves)&&decide (x.B<f.Leaves+f.Spines)):=by
   unfold out;apply Bool.eq_iff_iff.2;simp only[Bool.or_eq_true,decide_eq_true_eq,Bool.not_eq_true',Bool.and_eq_false_iff,decide_eq_false_iff_not];omega
  have e2:(decide (x.Cost<1)||decide (1000<x.Cost))=out x.Cost 1 1000:=rfl;simp only[g_ref22_link,G.run,tsOk,idxO_bind,lenO_bind,at?_nat,hx,Option.bind_some,linkE,flag_any _ _ _ _ hx,ref_within,Bool.not_not,out_lt _ _ (show(0:Int)≤f.Leaves by omega) (show f.Leaves≤4000 by omega),hw,hw2,e1,e2]
  cases(decide (0≤x.A)&&decide (x.A<f.Leaves))
  case false=>rfl
  cases decide (x.B≥f.Leaves)
  case false=>rfl
  cases decide (x.B<f.Leaves+f.Spines)
  case false=>rfl
  cases out x.Cost 1 1000
  case true=>rfl
  simp only[Bool.not_true,Bool.and_self,Bool.false_eq_true,if_false,if_true];refine Eq.trans (bind_any f.Links i (fun y=>decide ((⟨y.A,y.B⟩:V2 Int)=⟨x.A,x.B⟩)) hn (by omega) (fun j y hj hy=>?_) ?_) ?_
  ·have hlt:(j:Int)<(i:Int):=by omega
   have e:decide ((⟨y.A,y.B⟩:V2 Int)=⟨x.A,x.B⟩)=(y.A==x.A&&y.B==x.B):=by
    rw[Bool.eq_iff_iff];simp
   simp only[hlt,decide_true,if_true,at?_nat,hy,Option.bind_some,wrap_nat (show j<9223372036854775807 by omega),e]
   cases(y.A==x.A)<;>cases(y.B==x.B)<;>rfl
  ·simp;rfl
  ·cases((f.Links.take i).any fun y=>decide ((⟨y.A,y.B⟩:V2 Int)=⟨x.A,x.B⟩))<;>rfl
 rw[this];rfl
theorem if3{α:Type}(a b c:Bool)(u v:α):(if a=true then if b=true then if c=true then some u else some v else some v else some v)=some (if(a&&(b&&c))=true then u else v):=by
 cases a<;>cases b<;>cases c<;>rfl
theorem inner_eq(p:Prefix)(g:Int)(h0:0≤p.IP)(h1:p.IP≤4294967295)(hc:cleanS p=true):innerS p g=(containsS p g&&(g != p.IP&&g != IntKind.wrap .u32 (p.IP+lowP p.Len))):=by
 rw[last_or h0 h1 hc];rfl
theorem ref_domain{β:Type}(n:Nat)(f:Fabric)(i:Nat)(x:BD)(hx:f.BDs[i]? =some x)(hn:f.BDs.length<n)(hs:f.BDs.length≤4000)(hnt:f.Tenants.length<n)(ht:f.Tenants.length≤4000)(h0:0≤x.Subnet.IP)(h1:x.Subnet.IP≤4294967295)(k:c_ref22_domain.sh.El→Option β):
 (c_ref22_domain.S n (f,(i:Int))).bind k=k (domE f (flagsF (fun x:BD=>x.VNI) [] f.BDs) (flagsF (fun x:BD=>x.Target) [] f.BDs) i x):=by
 have:c_ref22_domain.S n (f,(i:Int))=some (domE f (flagsF (fun x:BD=>x.VNI) [] f.BDs) (flagsF (fun x:BD=>x.Target) [] f.BDs) i x):=by
  show(g_ref22_domain f (i:Int)).run n=_;have hi:=(List.getElem?_eq_some_iff.1 hx).1;have d1:∀a b:Int,decide (a=b)=(a==b):=fun _ _=>rfl
  simp only[g_ref22_domain,G.run,tsOk,idxO_bind,lenO_bind,at?_nat,hx,Option.bind_some,domE,flag_any _ _ _ _ hx,ref_within,ref_clean,Bool.not_not,out_lt _ _ (show(0:Int)≤(f.Tenants.length:Int)by omega) (show(f.Tenants.length:Int)≤4000 by omega),gt_iff_lt]
  cases(decide (0≤x.Tenant)&&decide (x.Tenant<(f.Tenants.length:Int)))
  case false=>rfl
  cases decide (x.VNI<1)
  case true=>rfl
  cases decide (16777215<x.VNI)
  case true=>rfl
  cases(x.Target==0)
  case true=>rfl
  simp only[Bool.not_true,Bool.false_eq_true,if_false,if_true];refine Eq.trans (bind_any f.Tenants f.Tenants.length (fun y=>y.VNI==x.VNI||y.Target==x.Target) hnt (by omega) (fun j y hj hy=>?_) ?_) ?_
  ·have hlt:(j:Int)<(f.Tenants.length:Int):=by omega
   simp only[hlt,decide_true,if_true,at?_nat,hy,Option.bind_some,wrap_nat (show j<9223372036854775807 by omega)]
   cases(y.VNI==x.VNI)<;>cases(y.Target==x.Target)<;>rfl
  ·simp;rfl
  rw[List.take_length,any_or];cases hT1:(f.Tenants.any fun y=>y.VNI==x.VNI)
  case true=>simp only[Bool.true_or,if_true,ite_self];rfl
  cases hT2:(f.Tenants.any fun y=>y.Target==x.Target)
  case true=>simp only[Bool.or_true,if_true,ite_self];rfl
  simp only[Sum.elim,G.run,tsOk,Bool.or_self,Bool.false_eq_true,if_false,if_true];refine Eq.trans (bind_any f.BDs i (fun y=>y.VNI==x.VNI||y.Target==x.Target) hn (by omega) (fun j y hj hy=>?_) ?_) ?_
  ·have hlt:(j:Int)<(i:Int):=by omega
   simp only[idxO_bind,G.run,tsOk,hlt,decide_true,if_true,at?_nat,hy,Option.bind_some,wrap_nat (show j<9223372036854775807 by omega)]
   cases(y.VNI==x.VNI)<;>cases(y.Target==x.Target)<;>rfl
  ·simp;rfl
  rw[any_or];simp only[d1];cases hV1:((f.BDs.take i).any fun y=>y.VNI==x.VNI)
  case true=>simp only[Bool.true_or,if_true,ite_self];rfl
  cases hV2:((f.BDs.take i).any fun y=>y.Target==x.Target)
  case true=>simp only[Bool.or_true,if_true,ite_self];rfl
  simp only[Bool.or_self,Bool.false_eq_true,if_false,Sum.elim,G.run,tsOk,ref_clean,ref_within,Bool.not_not];cases(x.Gateway==0)
  case true=>
   simp only[if_true];cases(x.Subnet.IP==0&&(x.Subnet.Len==0&&true))<;>rfl
  simp only[Bool.false_eq_true,if_false];cases hcl:cleanS x.Subnet
  case false=>rfl
  simp only[Bool.not_true,Bool.false_eq_true,if_false];cases out x.Subnet.Len 8 30
  case true=>rfl
  have hok:okPre x.Subnet=true:=by simp only[cleanS,Bool.and_eq_true]at hcl;exact hcl.1
  simp only[Bool.false_eq_true,if_false,ref_Contains,inner_eq _ _ h0 h1 hcl];cases containsS x.Subnet x.Gateway
  case false=>rfl
  simp only[Bool.not_true,Bool.false_eq_true,if_false,Bool.true_and,bne];cases(x.Gateway==x.Subnet.IP)
  case true=>rfl
  simp only[Bool.not_false,Bool.false_eq_true,if_false,Bool.true_and,Bool.not_not];rw[ref_last n x.Subnet hok];cases(x.Gateway==IntKind.wrap .u32 (x.Subnet.IP+lowP x.Subnet.Len))
  case true=>rfl
  simp only[G.run,tsOk,Bool.false_eq_true,if_false];refine Eq.trans (bind_any f.BDs i (overS x.Tenant x.Subnet.IP x.Subnet.Len) hn (by omega) (fun j y hj hy=>?_) ?_) ?_
  ·have hlt:(j:Int)<(i:Int):=by omega
   simp only[idxO_bind,G.run,tsOk,ref_overlap,overS,hlt,decide_true,if_true,at?_nat,hy,Option.bind_some,wrap_nat (show j<9223372036854775807 by omega)]
   exact if3 _ _ _ _ _
  ·simp;rfl
  ·cases((f.BDs.take i).any (overS x.Tenant x.Subnet.IP x.Subnet.Len))<;>rfl
 rw[this];rfl
end Go.L
namespace Go.L
open Go.AM
theorem bind_count{α γ:Type}{n:Nat}(l:List α)(i:Nat)(p:α→Bool){f:Int×Int→Option ((Int×Int)⊕Int)}{k:Int→Option γ}(hn:l.length<n)(hs:l.length≤4000)(hi:i<l.length)
 (hf:∀(j:Nat) x,j≤i→l[j]? =some x→∀c:Nat,c≤4000→f ((c:Int),(j:Int))=some (.inl (if p x=true then((c+1:Nat):Int)else(c:Int),((j+1:Nat):Int))))
 (he:∀c:Int,f (c,((i+1:Nat):Int))=some (.inr c)):(iterO f n (0,0)).bind k=k ((((l.take (i+1)).countP p:Nat)):Int):=by
 have main:iterO f n (0,0)=some ((((l.take (i+1)).countP p:Nat)):Int):=by
  have hl:(l.take (i+1)).length=i+1:=by simp;omega
  refine iterO_list (fun j (c:Nat)=>((c:Int),(j:Int))) (l.take (i+1)) (fun j=>((l.take (i+1)).take j).countP p) _ (fun j x hx=>?_) ?_ n (by omega)
  ·have hj:=(List.getElem?_eq_some_iff.1 hx).1;rw[hl]at hj;have hx':=hx;rw[List.getElem?_take,if_pos hj]at hx;have hc:((l.take (i+1)).take j).countP p≤4000:=by
    refine Nat.le_trans List.countP_le_length ?_;simp;omega
   rw[hf j x (by omega) hx _ hc]
   clear hc;generalize l.take (i+1)=m at hx';rw[List.take_add_one,hx',List.countP_append];by_cases h:p x=true<;>simp[h]
  ·grind
 rw[main];rfl
theorem ref_segment{β:Type}(n:Nat)(f:Fabric)(i:Nat)(x:Segment)(hx:f.Segments[i]? =some x)(hn:f.Segments.length<n)(hs:f.Segments.length≤4000)(hL:1≤f.Leaves∧f.Leaves≤32)(hB:f.BDs.length≤4000)
 (hsn:∀s∈f.Segments,(s.BDs.length<n∧s.BDs.length≤4000)∧s.Leaves.length<n∧s.Leaves.length≤4000) (k:c_ref22_segment.sh.El→Option β):
 (c_ref22_segment.S n (f,(i:Int))).bind k=k (segE f i x):=by
 have:c_ref22_segment.S n (f,(i:Int))=some (segE f i x):=by
  show(g_ref22_segment f (i:Int)).run n=_;have hi:=(List.getElem?_eq_some_iff.1 hx).1;have hxm:=List.mem_of_getElem? hx;obtain⟨⟨hb1,hb2⟩,hl1,hl2⟩:=hsn x hxm;simp only[g_ref22_segment,G.run,tsOk,idxO_bind,lenO_bind,at?_nat,hx,Option.bind_some,segE,ref_within,Bool.not_not,out_lt _ _ (show(0:Int)≤f.Leaves by omega) (show f.Leaves≤4000 by omega)]
  cases((x.Leaves.length:Int)==0)
  case true=>rfl
  cases((x.BDs.length:Int)==0)
  case true=>rfl
  simp only[Bool.false_eq_true,if_false,if_true];refine Eq.trans (bind_any x.Leaves x.Leaves.length (fun y=> !(decide (0≤y)&&decide (y<f.Leaves))) hl1 (by omega) (fun j y hj hy=>?_) ?_) ?_
  ·have hlt:(j:Int)<(x.Leaves.length:Int):=by omega
   simp only[hlt,decide_true,if_true,at?_nat,hy,Option.bind_some,wrap_nat (show j<9223372036854775807 by omega)]
   split<;>rfl
  ·simp;rfl
  rw[List.take_length];cases(x.Leaves.any fun n=> !(decide (0≤n)&&decide (n<f.Leaves)))
  case true=>rfl
  simp only[Bool.false_eq_true,if_false,if_true,Sum.elim,G.run,tsOk,idxO_bind,lenO_bind,ref_within,Bool.not_not,out_lt _ _ (show(0:Int)≤(f.BDs.length:Int)by omega) (show(f.BDs.length:Int)≤4000 by omega)]
  refine Eq.trans (bind_any x.BDs x.BDs.length (fun y=> !(decide (0≤y)&&decide (y<(f.BDs.length:Int)))) hb1 (by omega) (fun j y hj hy=>?_) ?_) ?_
  ·have hlt:(j:Int)<(x.BDs.length:Int):=by omega
   simp only[hlt,decide_true,if_true,at?_nat,hy,Option.bind_some,wrap_nat (show j<9223372036854775807 by omega)]
   split<;>rfl
  ·simp;rfl
  rw[List.take_length];cases(x.BDs.any fun n=> !(decide (0≤n)&&decide (n<(f.BDs.length:Int))))
  case true=>rfl
  simp only[Bool.false_eq_true,if_false,if_true,Sum.elim,G.run,tsOk,idxO_bind,lenO_bind,ref_ascending n _ hl1 hl2,ref_ascending n _ hb1 hb2];cases ascB x.Leaves
  case false=>rfl
  cases ascB x.BDs
  case false=>rfl
  simp only[Bool.not_true,Bool.false_eq_true,if_false,if_true];refine Eq.trans (bind_any x.Leaves x.Leaves.length (fun y=>decide (32<(((f.Segments.take i).countP fun s=>s.Leaves.contains y:Nat):Int)+1)) hl1 (by omega) (fun j y hj hy=>?_) ?_) ?_
  ·have hlt:(j:Int)<(x.Leaves.length:Int):=by omega
   simp only[hlt,decide_true,if_true,at?_nat,hy,Option.bind_some,wrap_nat (show j<9223372036854775807 by omega)]
   refine Eq.trans (bind_count f.Segments i (fun s=>s.Leaves.contains y) hn hs hi (fun m s hm hms c hc=>?_) (fun c=>?_)) ?_
   ·have hle:(m:Int)≤(i:Int):=by omega
    have hsm:=List.mem_of_getElem? hms;simp only[hle,decide_true,if_true,at?_nat,hms,Option.bind_some,wrap_nat (show m<9223372036854775807 by omega),wrap_nat (show c<9223372036854775807 by omega)]
    rw[ref_has n s.Leaves y (hsn s hsm).2.1 (hsn s hsm).2.2];have e:(s.Leaves.any fun v=>v==y)=s.Leaves.contains y:=by
     rw[List.any_beq']
    rw[e];cases s.Leaves.contains y<;>rfl
   ·have hle:¬(((i+1:Nat):Int)≤(i:Int)):=by omega
    simp only[hle,decide_false,Bool.false_eq_true,if_false];rfl
   ·have hc:((f.Segments.take (i+1)).countP fun s=>s.Leaves.contains y)=((f.Segments.take i).countP fun s=>s.Leaves.contains y)+1:=by
     rw[List.take_add_one,hx,List.countP_append];have:x.Leaves.contains y=true:=by
      rw[List.contains_iff_mem];exact List.mem_of_getElem? hy
     simp[this];exact List.mem_of_getElem? hy
    rw[hc];simp only[gt_iff_lt,Int.natCast_add,Int.cast_ofNat_Int];split<;>rfl
  ·simp;rfl
  ·rw[List.take_length];cases(x.Leaves.any fun n=>decide (32<(((f.Segments.take i).countP fun s=>s.Leaves.contains n:Nat):Int)+1))<;>rfl
 rw[this];rfl
end Go.L
namespace Go.L
open Go.AM
def hostTail(f:Fabric)(i:Nat)(x:Host):Int:=
 if(((f.Hosts.take i).any fun y=>y.BD==x.BD&&y.MAC==x.MAC)||(x.IP != 0&&((f.Hosts.take i).any fun y=>y.BD==x.BD&&y.IP==x.IP)))=true then 11 else 0
theorem any_and_const{α:Type}(l:List α)(b:Bool)(p:α→Bool):(b&&l.any p)=l.any fun y=>b&&p y:=by
 cases b
 ·simp
 ·simp
theorem host_any{γ:Type}{n:Nat}(f:Fabric)(i:Nat)(x:Host)(hi:i<f.Hosts.length)(hn:f.Hosts.length<n){g:Int→Option (Int⊕(Unit⊕Unit))}{k:Unit⊕Unit→Option γ}
 (hf:∀(j:Nat) y,j<i→f.Hosts[j]? =some y→g (j:Int)=some (if((y.BD==x.BD)&&((y.MAC==x.MAC)||((x.IP != 0)&&(y.IP==x.IP))))=true then .inr (.inl ())else .inl ((j+1:Nat):Int))) (he:g (i:Int)=some (.inr (.inr ())))
 {r:Int→Option γ} (h1:k (.inl ())=r 11) (h2:k (.inr ())=r 0):(iterO g n 0).bind k=r (hostTail f i x):=by
 refine Eq.trans (bind_any f.Hosts i (fun y=>(y.BD==x.BD)&&((y.MAC==x.MAC)||((x.IP != 0)&&(y.IP==x.IP)))) hn (by omega) hf he) ?_
 have e:((f.Hosts.take i).any fun y=>(y.BD==x.BD)&&((y.MAC==x.MAC)||((x.IP != 0)&&(y.IP==x.IP))))=(((f.Hosts.take i).any fun y=>y.BD==x.BD&&y.MAC==x.MAC)||(x.IP != 0&&((f.Hosts.take i).any fun y=>y.BD==x.BD&&y.IP==x.IP))):=by
  rw[any_and_const,← any_or];congr 1
  funext y
  cases(y.BD==x.BD)<;>cases(y.MAC==x.MAC)<;>cases(x.IP != 0)<;>cases(y.IP==x.IP)<;>rfl
 rw[e];unfold hostTail;split
 ·exact h1
 ·exact h2
end Go.L
namespace Go.L
open Go.AM
theorem host_tail_eq(f:Fabric)(i:Nat)(x:Host)(hx:f.Hosts[i]? =some x)(hr:∀h∈f.Hosts,0≤h.IP∧h.IP≤4294967295):
 (if(flagsF (fun x:Host=>(⟨x.BD,x.MAC⟩:tenant_place)) [] f.Hosts).getD i false=true then(11:Int)else if(x.IP != 0&&(flagsF (fun x:Host=>(⟨x.BD,IntKind.wrap .u64 x.IP⟩:tenant_place)) [] f.Hosts).getD i false)=true then 11 else 0)=hostTail f i x:=by
 have w:∀h∈f.Hosts,IntKind.wrap .u64 h.IP=h.IP:=by
  intro h hh;have:=hr h hh;have e:IntKind.wrap .u64 h.IP=h.IP % 18446744073709551616:=by simp[IntKind.wrap,IntKind.bits,IntKind.signed]
  rw[e];omega
 have hxm:=List.mem_of_getElem? hx;simp only[flag_any _ _ _ _ hx];have e1:((f.Hosts.take i).any fun y=>decide ((⟨y.BD,y.MAC⟩:tenant_place)=⟨x.BD,x.MAC⟩))=((f.Hosts.take i).any fun y=>y.BD==x.BD&&y.MAC==x.MAC):=by
  congr 1
  funext y
  rw[Bool.eq_iff_iff];simp
 have e2:((f.Hosts.take i).any fun y=>decide ((⟨y.BD,IntKind.wrap .u64 y.IP⟩:tenant_place)=⟨x.BD,IntKind.wrap .u64 x.IP⟩))=((f.Hosts.take i).any fun y=>y.BD==x.BD&&y.IP==x.IP):=by
  have key:∀y∈f.Hosts.take i,decide ((⟨y.BD,IntKind.wrap .u64 y.IP⟩:tenant_place)=⟨x.BD,IntKind.wrap .u64 x.IP⟩)=(y.BD==x.BD&&y.IP==x.IP):=by
   intro y hy;rw[w y (List.mem_of_mem_take hy),w x hxm,Bool.eq_iff_iff];simp
  rw[Bool.eq_iff_iff,List.any_eq_true,List.any_eq_true];exact⟨fun⟨y,hy,h⟩=>⟨y,hy,by rw[← key y hy];exact h⟩,fun⟨y,hy,h⟩=>⟨y,hy,by rw[key y hy];exact h⟩⟩
 rw[e1,e2];unfold hostTail;grind
theorem gHl_r{n:Nat}(f:Fabric)(i:Nat)(x:Host)(hi:i<f.Hosts.length)(hn:f.Hosts.length<n)(hs:f.Hosts.length≤4000):(gHl f i x).run n=some (hostTail f i x):=by
 simp only[gHl,G.run,tsOk,idxO_bind,if_true];refine host_any f i x hi hn (fun j y hj hy=>?_) ?_ (r:=fun v=>some v) rfl rfl
 ·have hlt:(j:Int)<(i:Int):=by omega
  simp only[hlt,decide_true,if_true,at?_nat,hy,Option.bind_some,wrap_nat (show j<9223372036854775807 by omega)]
  cases(y.BD==x.BD)<;>cases(y.MAC==x.MAC)<;>cases(x.IP != 0)<;>cases(y.IP==x.IP)<;>rfl
 ·simp;rfl
theorem gHm_r{n:Nat}(f:Fabric)(i:Nat)(x:Host)(b:BD)(hi:i<f.Hosts.length)(hn:f.Hosts.length<n)(hs:f.Hosts.length≤4000)(hip:b.Gateway=0→x.IP=0)(hsub:b.Gateway≠0→cleanS b.Subnet=true)(hbr:0≤b.Subnet.IP∧b.Subnet.IP≤4294967295):
 (gHm f i x b).run n=some (if(!addressedS b x.IP)=true then 3 else hostTail f i x):=by
 simp only[gHm,G.run,tsOk,gHl_r f i x hi hn hs,if_true];by_cases hg:b.Gateway=0
 ·simp[hg,hip hg,addressedS];rfl
 cases hp:(x.IP==0)
 case true=>simp[hg,eq_of_beq hp,addressedS];rfl
 have hcl:=hsub hg;simp only[bne,hp,beq_eq_false_iff_ne.2 hg,addressedS,inner_eq _ _ hbr.1 hbr.2 hcl,ref_Contains,Bool.not_false,Bool.true_and,Bool.false_or,if_true];cases hc:containsS b.Subnet x.IP
 case false=>simp;rfl
 have hok:okPre b.Subnet=true:=by simp only[containsS,Bool.and_eq_true]at hc;exact hc.1
 simp only[Bool.not_true,Bool.false_eq_true,if_false,Bool.true_and];rw[ref_last n b.Subnet hok];cases h1:(x.IP==b.Subnet.IP)<;>cases h2:(x.IP==IntKind.wrap .u32 (b.Subnet.IP+lowP b.Subnet.Len))<;>cases h3:(x.IP==b.Gateway)<;>simp[G.run,tsOk,h2,h3,gHl_r f i x hi hn hs]<;>rfl
theorem gHr_r{n:Nat}(f:Fabric)(i:Nat)(x:Host)(b:BD)(hb:at? f.BDs x.BD=some b)(hi:i<f.Hosts.length)(hn:f.Hosts.length<n)(hs:f.Hosts.length≤4000)(hsub:b.Gateway≠0→cleanS b.Subnet=true)(hbr:0≤b.Subnet.IP∧b.Subnet.IP≤4294967295):
 (gHr f i x).run n=some (if(x.MAC==1577058561)=true then 3 else if routerM x.MAC=true then 3 else if(!addressedS b x.IP)=true then 3 else hostTail f i x):=by
 have key:(x.MAC==1577058561)=false→routerM x.MAC=false→(if(b.Gateway==0)=true then if(x.IP != 0)=true then some (3:Int)else(gHm f i x b).run n else(gHm f i x b).run n)=some (if(!addressedS b x.IP)=true then 3 else hostTail f i x):=fun _ _=>by
  by_cases hg:b.Gateway=0
  ·by_cases hp:x.IP=0
   ·simp only[gHm_r f i x b hi hn hs (fun _=>hp) hsub hbr,hg,hp];simp
   ·simp[hg,hp,addressedS]
  ·simp only[gHm_r f i x b hi hn hs (fun h=>absurd h hg) hsub hbr];simp[hg]
 simp only[gHr,ref_RouterNode,G.run,tsOk,idxO_bind,hb,Option.bind_some,if_true];cases h1:(x.MAC==1577058561)<;>cases h2:routerM x.MAC<;>simp only[G.run,tsOk,idxO_bind,hb,Option.bind_some,h1,if_true,if_false,Bool.false_eq_true]
 exact key h1 h2
 all_goals rfl
theorem ref_host{β:Type}(n:Nat)(f:Fabric)(i:Nat)(x:Host)(hx:f.Hosts[i]? =some x)(hn:f.Hosts.length<n)(hs:f.Hosts.length≤4000)(hB:f.BDs.length≤4000)(hseg:f.Segments.length≤4000)
 (hsn:∀s∈f.Segments,s.BDs.length<n∧s.BDs.length≤4000) (hsub:∀b∈f.BDs,b.Gateway≠0→cleanS b.Subnet=true) (hbr:∀b∈f.BDs,0≤b.Subnet.IP∧b.Subnet.IP≤4294967295) (hr:∀h∈f.Hosts,0≤h.IP∧h.IP≤4294967295) (k:c_ref22_host.sh.El→Option β):
 (c_ref22_host.S n (f,(i:Int))).bind k=k (hostE f (flagsF (fun x:Host=>(⟨x.BD,x.MAC⟩:tenant_place)) [] f.Hosts) (flagsF (fun x:Host=>(⟨x.BD,IntKind.wrap .u64 x.IP⟩:tenant_place)) [] f.Hosts) i x):=by
 have:c_ref22_host.S n (f,(i:Int))=some (hostE f (flagsF (fun x:Host=>(⟨x.BD,x.MAC⟩:tenant_place)) [] f.Hosts) (flagsF (fun x:Host=>(⟨x.BD,IntKind.wrap .u64 x.IP⟩:tenant_place)) [] f.Hosts) i x):=by
  show(g_ref22_host f (i:Int)).run n=_;have hi:=(List.getElem?_eq_some_iff.1 hx).1;unfold hostE;rw[host_tail_eq f i x hx hr];have hw:=okSub (f.Segments.length:Int) (by omega) (by omega)
  simp only[g_ref22_host,G.run,tsOk,idxO_bind,lenO_bind,at?_nat,hx,Option.bind_some,ref_within,ref_Multicast,Bool.not_not,out_lt _ _ (show(0:Int)≤(f.BDs.length:Int)by omega) (show(f.BDs.length:Int)≤4000 by omega),hw,gt_iff_lt]
  cases(x.MAC==0)
  case true=>rfl
  cases decide (281474976710655<x.MAC)
  case true=>rfl
  cases castM x.MAC
  case true=>rfl
  cases hbd:(decide (0≤x.BD)&&decide (x.BD<(f.BDs.length:Int)))
  case false=>rfl
  cases hsg:out x.Segment (-1) ((f.Segments.length:Int) - 1)
  case true=>rfl
  obtain⟨b,hb⟩:∃b,at? f.BDs x.BD=some b:=by
   simp only[Bool.and_eq_true,decide_eq_true_eq]at hbd;exact⟨_,by unfold at?;rw[if_pos hbd.1];exact List.getElem?_eq_getElem (by omega)⟩
  have hbm:b∈f.BDs:=by
   unfold at? at hb;split at hb
   ·exact List.mem_of_getElem? hb
   ·cases hb
  have hbd2:bdAt f x.BD=b:=by simp[bdAt,hb]
  have hsb:b.Gateway≠0→cleanS b.Subnet=true:=hsub b hbm;simp only[Bool.not_true,Bool.false_eq_true,if_false,if_true,hbd2];cases hs1:(x.Segment != -1)
  ·simp only[Bool.false_and,Bool.false_eq_true,if_false];exact gHr_r f i x b hb hi hn hs hsb (hbr b hbm)
  ·obtain⟨s,hs'⟩:∃s,at? f.Segments x.Segment=some s:=by
    simp only[out,Bool.or_eq_false_iff,decide_eq_false_iff_not]at hsg;have:x.Segment≠ -1:=by simpa using hs1
    exact⟨_,by unfold at?;rw[if_pos (by omega)];exact List.getElem?_eq_getElem (by omega)⟩
   have hsm:s∈f.Segments:=by
    unfold at? at hs';split at hs'
    ·exact List.mem_of_getElem? hs'
    ·cases hs'
   have hsb2:segBDs f x.Segment=s.BDs:=by simp[segBDs,hs']
   have hcm:(s.BDs.any fun v=>x.BD==v)=(s.BDs.any fun v=>v==x.BD):=by
    congr 1;funext v;exact Bool.eq_iff_iff.2 ⟨fun h=>beq_iff_eq.2 (beq_iff_eq.1 h).symm,fun h=>beq_iff_eq.2 (beq_iff_eq.1 h).symm⟩
   simp only[if_true,hs',Option.bind_some,hsb2,Bool.true_and,hcm,ref_has n s.BDs x.BD (hsn s hsm).1 (hsn s hsm).2];cases(s.BDs.any fun v=>v==x.BD)
   case false=>rfl
   simp only[Bool.not_true,Bool.false_eq_true,if_false];exact gHr_r f i x b hb hi hn hs hsb (hbr b hbm)
 rw[this];rfl
end Go.L
namespace Go.L
open Go.AM
theorem sub_clean{f:Fabric}{u:Unit}(h:oDomains f=.inl u):∀b∈f.BDs,b.Gateway≠0→cleanS b.Subnet=true:=by
 intro b hb hg;have:=(outcome_ok h).2;rw[firstErr_none]at this;obtain⟨i,hi⟩:=List.getElem?_of_mem hb;have:=this i b hi;have hg':(b.Gateway==0)=false:=by simpa using hg
 cases hc:cleanS b.Subnet with
 |true=>rfl
 |false=>
  unfold domE at this;simp only[hg',hc,Bool.not_false,if_true,Bool.false_eq_true,if_false]at this
  repeat' split at this
  all_goals cases this
structure Ranged(f:Fabric):Prop where
 bds:∀b∈f.BDs,0≤b.Subnet.IP∧b.Subnet.IP≤4294967295
 hosts:∀h∈f.Hosts,0≤h.IP∧h.IP≤4294967295
theorem gPart_r{n:Nat}{α:Type}{f:Fabric}{i m:Int}{s:ByteArray}{g:G prog (Sh.El (.one (Prod Int (Prod ByteArray Int))))}{r:Int×ByteArray×Int}(l:List α)(E:Nat→α→Int)(hn:l.length<n)(hs:l.length≤4000)
 (hel:∀(j:Nat) x,l[j]? =some x→c_ref22_element.S n (f,i,(j:Int))=some (E j x)) (hg:outcome s m (decide (m<(l.length:Int))) (firstErr E 0 l)=.inl ()→g.run n=some r):
 (gPart f i l.length m s g).run n=some (thenR (outcome s m (decide (m<(l.length:Int))) (firstErr E 0 l)) r):=by
 simp only[gPart,G.run,tsOk,if_true,gt_iff_lt];unfold outcome at hg ⊢;cases hm:decide (m<(l.length:Int))
 case true=>rfl
 rw[hm]at hg;simp only[Bool.false_eq_true,if_false]at hg ⊢;refine Eq.trans (bind_firstS' (fun j=>(j:Int)) l E (fun i e=>some (e,s,(i:Int))) (g.run n) rfl hn (fun j x hx _ hE=>?_) (fun j x hx _ hE=>?_) (fun _=>?_)) ?_
 ·have hj:=(List.getElem?_eq_some_iff.1 hx).1;refine⟨.inl (E j x,(j:Int)),?_,rfl⟩;simp only[show(j:Int)<(l.length:Int)by omega,decide_true,if_true,hel j x hx,Option.bind_some]
  exact if_pos (show(E j x != 0)=true by simpa using hE)
 ·have hj:=(List.getElem?_eq_some_iff.1 hx).1;simp only[show(j:Int)<(l.length:Int)by omega,decide_true,if_true,hel j x hx,Option.bind_some,wrap_nat (show j<9223372036854775807 by omega)]
  exact if_neg (show ¬(E j x != 0)=true by simpa using hE)
 ·exact⟨.inr (),by simp,rfl⟩
 ·cases hE:firstErr E 0 l with
  |none=>rw[hE]at hg;exact hg rfl
  |some p=>rfl
end Go.L
namespace Go.L
open Go.AM
theorem ref_Check{β:Type}(n:Nat)(hn:5000≤n)(f:Fabric)(hs:Small f)(hr:Ranged f)(k:c_ref22_Check.sh.El→Option β):(c_ref22_Check.S n f).bind k=k (checkS f):=by
 have hseg:∀s∈f.Segments,(s.BDs.length<n∧s.BDs.length≤4000)∧s.Leaves.length<n∧s.Leaves.length≤4000:=fun s h=>by
  have:=hs.seg s h;omega
 obtain⟨h1,h2,h3,h4,h5,h6⟩:f.Links.length≤4000∧f.Tenants.length≤4000∧f.BDs.length≤4000∧f.Segments.length≤4000∧f.Hosts.length≤4000∧f.Leaks.length≤4000:=⟨hs.links,hs.tenants,hs.bds,hs.segments,hs.hosts,hs.leaks⟩;have:c_ref22_Check.S n f=some (checkS f):=by
  show(g_ref22_Check f).run n=_;simp only[g_ref22_Check,G.run,tsOk,lenO_bind,ref_numbers,ref_timers];unfold checkS oFabric oTimers;cases hb:badFabric f
  case true=>rfl
  cases hb2:badTimers f.Timers
  case true=>rfl
  have hF:oFabric f=.inl ():=by unfold oFabric;rw[hb];rfl
  simp only[errIf,thenR,show((0:Int) != 0)=false from by decide,Bool.false_eq_true,if_false]
  refine gPart_r f.Links _ (by omega) h1 (fun j x hx=>ref_link n f j x hx (by omega) h1 (leaves_ok hF) some) fun _=>?_
  refine gPart_r f.Tenants _ (by omega) h2 (fun j x hx=>ref_tenant n f j x hx (by omega) h2 some) fun _=>?_
  refine gPart_r f.BDs _ (by omega) h3 (fun j x hx=>ref_domain n f j x hx (by omega) h3 (by omega) h2 (hr.bds x (List.mem_of_getElem? hx)).1 (hr.bds x (List.mem_of_getElem? hx)).2 some) fun hD=>?_
  refine gPart_r f.Segments _ (by omega) h4 (fun j x hx=>ref_segment n f j x hx (by omega) h4 ⟨(leaves_ok hF).1,(leaves_ok hF).2.1⟩ h3 hseg some) fun _=>?_
  refine gPart_r f.Hosts _ (by omega) h5 (fun j x hx=>ref_host n f j x hx (by omega) h5 h3 h4 (fun s h=>(hseg s h).1) (sub_clean hD) hr.bds hr.hosts some) fun _=>?_
  refine gPart_r f.Leaks _ (by omega) h6 (fun j x hx=>ref_leak n f j x hx (by omega) h6 h2 some) fun _=>rfl
 rw[this];rfl
end Go.L
end
