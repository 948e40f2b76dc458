/- What the makers of communities hand back. No conditions. -/
import Derived.Test.YtdbkafoghoenoaaGreatDoorWo
import Derived.Test.YtdbkafoghoenoaaGreatDoorPs
import Derived.Test.YtdbkafoghoenoaaGreatDoorPa
set_option linter.unusedSimpArgs false
set_option linter.unusedVariables false
set_option maxRecDepth 100000
namespace Go.L
open Go.AM
def madeS(t s n:Int):V8 Int:=⟨t,s,n / 1099511627776 % 256,n / 4294967296 % 256,n / 16777216 % 256,n / 65536 % 256,n / 256 % 256,n % 256⟩
theorem w8k{x k K:Int}(h:k=K)(hK:0≤K):IntKind.wrap .u8 (Int.fdiv x k)=x / K % 256:=by
 subst h;rw[Int.fdiv_eq_ediv_of_nonneg _ hK];simp[IntKind.wrap,IntKind.bits,IntKind.signed]
theorem v8e{a b:V8 Int}(h0:a.a0=b.a0)(h1:a.a1=b.a1)(h2:a.a2=b.a2)(h3:a.a3=b.a3)(h4:a.a4=b.a4)(h5:a.a5=b.a5)(h6:a.a6=b.a6)(h7:a.a7=b.a7):a=b:=by
 cases a;cases b;simp_all
theorem made_ok(t s n:Int)(ht:0≤t∧t<256)(hs:0≤s∧s<256):okC (madeS t s n):=by
 refine⟨ht,hs,?_,?_,?_,?_,?_,?_⟩<;>(simp only[madeS];omega)
theorem encap_v(N:Nat):c_comm_Encap.S N (8:Int)=some (madeS 3 12 8,(0:Int)):=by kernel_rfl
theorem target_v(N:Nat){n:Int}(h0:0≤n)(h1:n<4294967296):c_comm_Target.S N (65000,n)=some (madeS 0 2 (65000*4294967296+n)):=by
 have h:At (c_comm_Target.S N (65000,n)) fun r=>r=madeS 0 2 (65000*4294967296+n):=by
  refine(?_ :AtG N (g_comm_Target 65000 n) _);unfold g_comm_Target
  repeat first |refine .skip ?_ |refine .inl ?_ |refine .unroll ?_ |refine .tidy rfl ?_
  refine .done rfl (v8e rfl rfl ?_ ?_ ?_ ?_ ?_ ?_)
  ·refine(w8k (K:=256) (by kernel_rfl) (by decide)).trans ?_
   rw[w64u (by decide) (by decide)];simp only[madeS];omega
  ·refine(w8k (K:=1) (by kernel_rfl) (by decide)).trans ?_
   rw[w64u (by decide) (by decide)];simp only[madeS];omega
  ·refine(w8k (K:=16777216) (by kernel_rfl) (by decide)).trans ?_
   rw[w64u h0 (by omega)];simp only[madeS];omega
  ·refine(w8k (K:=65536) (by kernel_rfl) (by decide)).trans ?_
   rw[w64u h0 (by omega)];simp only[madeS];omega
  ·refine(w8k (K:=256) (by kernel_rfl) (by decide)).trans ?_
   rw[w64u h0 (by omega)];simp only[madeS];omega
  ·refine(w8k (K:=1) (by kernel_rfl) (by decide)).trans ?_
   rw[w64u h0 (by omega)];simp only[madeS];omega
 obtain⟨r,e,rfl⟩:=h;exact e
theorem import_v(N:Nat){m:Int}(h0:0≤m)(h1:m<281474976710656):c_comm_Import.S N m=some (madeS 6 2 m,0):=by
 have h:At (c_comm_Import.S N m) fun r=>r=(madeS 6 2 m,0):=by
  refine(?_ :AtG N (g_comm_Import m) _);unfold g_comm_Import;refine .skip (.inl (.skip (.br (fun h=>?_) fun h=>?_)))
  ·grind
  repeat first |refine .skip ?_ |refine .inl ?_ |refine .unroll ?_ |refine .tidy rfl ?_
  refine .done rfl (congrArg (fun x=>(x,(0:Int))) (v8e rfl rfl ?_ ?_ ?_ ?_ ?_ ?_))
  ·refine(w8k (K:=1099511627776) (by kernel_rfl) (by decide)).trans ?_
   simp only[madeS]
  ·refine(w8k (K:=4294967296) (by kernel_rfl) (by decide)).trans ?_
   simp only[madeS]
  ·refine(w8k (K:=16777216) (by kernel_rfl) (by decide)).trans ?_
   simp only[madeS]
  ·refine(w8k (K:=65536) (by kernel_rfl) (by decide)).trans ?_
   simp only[madeS]
  ·refine(w8k (K:=256) (by kernel_rfl) (by decide)).trans ?_
   simp only[madeS]
  ·refine(w8k (K:=1) (by kernel_rfl) (by decide)).trans ?_
   simp only[madeS];omega
 obtain⟨r,e,rfl⟩:=h;exact e
theorem router_v(N:Nat){m:Int}(h0:0≤m)(h1:m<281474976710656):c_comm_Router.S N m=some (madeS 6 3 m,0):=by
 have h:At (c_comm_Router.S N m) fun r=>r=(madeS 6 3 m,0):=by
  refine(?_ :AtG N (g_comm_Router m) _);unfold g_comm_Router;refine .skip (.inl (.skip (.br (fun h=>?_) fun h=>?_)))
  ·grind
  repeat first |refine .skip ?_ |refine .inl ?_ |refine .unroll ?_ |refine .tidy rfl ?_
  refine .done rfl (congrArg (fun x=>(x,(0:Int))) (v8e rfl rfl ?_ ?_ ?_ ?_ ?_ ?_))
  ·refine(w8k (K:=1099511627776) (by kernel_rfl) (by decide)).trans ?_
   simp only[madeS]
  ·refine(w8k (K:=4294967296) (by kernel_rfl) (by decide)).trans ?_
   simp only[madeS]
  ·refine(w8k (K:=16777216) (by kernel_rfl) (by decide)).trans ?_
   simp only[madeS]
  ·refine(w8k (K:=65536) (by kernel_rfl) (by decide)).trans ?_
   simp only[madeS]
  ·refine(w8k (K:=256) (by kernel_rfl) (by decide)).trans ?_
   simp only[madeS]
  ·refine(w8k (K:=1) (by kernel_rfl) (by decide)).trans ?_
   simp only[madeS];omega
 obtain⟨r,e,rfl⟩:=h;exact e
theorem election_v(N:Nat){a p:Int}(h0:0≤a)(h1:a≤31)(g0:0≤p)(g1:p≤65535):c_comm_Election.S N (a,p)=some (madeS 6 6 (a*1099511627776+p),0):=by
 have h:At (c_comm_Election.S N (a,p)) fun r=>r=(madeS 6 6 (a*1099511627776+p),0):=by
  refine(?_ :AtG N (g_comm_Election a p) _);unfold g_comm_Election;refine .skip (.br (fun h=>?_) fun h=>.skip (.br (fun h=>?_) fun h=>.skip (.br (fun h=>?_) fun h=>.skip (.br (fun h=>?_) fun h=>?_))))
  iterate 4 · grind
  repeat first |refine .skip ?_ |refine .inl ?_ |refine .unroll ?_ |refine .tidy rfl ?_
  refine .done rfl (congrArg (fun x=>(x,(0:Int))) (v8e rfl rfl ?_ ?_ ?_ ?_ ?_ ?_))
  ·refine(w8k (K:=1) (by kernel_rfl) (by decide)).trans ?_
   rw[w64u h0 (by omega)];simp only[madeS];omega
  ·refine(w8k (K:=65536) (by kernel_rfl) (by decide)).trans ?_
   simp only[madeS];omega
  ·refine(w8k (K:=256) (by kernel_rfl) (by decide)).trans ?_
   simp only[madeS];omega
  ·refine(w8k (K:=1) (by kernel_rfl) (by decide)).trans ?_
   simp only[madeS];omega
  ·refine(w8k (K:=256) (by kernel_rfl) (by decide)).trans ?_
   rw[w64u g0 (by omega)];simp only[madeS];omega
  ·refine(w8k (K:=1) (by kernel_rfl) (by decide)).trans ?_
   rw[w64u g0 (by omega)];simp only[madeS];omega
 obtain⟨r,e,rfl⟩:=h;exact e
theorem flag_v(N:Nat):c_comm_flag.S N false=some (0:Int):=by kernel_rfl
theorem label_v(N:Nat){n:Int}(h0:0≤n)(h1:n≤16777215):c_comm_Label.S N (false,n)=some (madeS 6 1 n,0):=by
 have h:At (c_comm_Label.S N (false,n)) fun r=>r=(madeS 6 1 n,0):=by
  refine(?_ :AtG N (g_comm_Label false n) _);unfold g_comm_Label;refine .skip (.br (fun h=>?_) fun h=>.skip (.call (fun(r:Int)=>r=0) ⟨_,flag_v N,rfl⟩ fun r4 h4=>?_))
  ·grind
  subst h4
  repeat first |refine .skip ?_ |refine .inl ?_ |refine .unroll ?_ |refine .tidy rfl ?_
  refine .done rfl (congrArg (fun x=>(x,(0:Int))) (v8e rfl rfl ?_ ?_ ?_ ?_ ?_ ?_))
  ·refine(w8k (K:=1) (by kernel_rfl) (by decide)).trans ?_
   simp only[madeS];omega
  ·refine(w8k (K:=256) (by kernel_rfl) (by decide)).trans ?_
   simp only[madeS];omega
  ·refine(w8k (K:=1) (by kernel_rfl) (by decide)).trans ?_
   simp only[madeS];omega
  ·refine(w8k (K:=65536) (by kernel_rfl) (by decide)).trans ?_
   rw[w64u h0 (by omega)];simp only[madeS]
  ·refine(w8k (K:=256) (by kernel_rfl) (by decide)).trans ?_
   rw[w64u h0 (by omega)];simp only[madeS]
  ·refine(w8k (K:=1) (by kernel_rfl) (by decide)).trans ?_
   rw[w64u h0 (by omega)];simp only[madeS];omega
 obtain⟨r,e,rfl⟩:=h;exact e
theorem mobility_v(N:Nat){n:Int}(h0:0≤n)(h1:n<4294967296):c_comm_Mobility.S N (false,n)=some (madeS 6 0 n):=by
 have h:At (c_comm_Mobility.S N (false,n)) fun r=>r=madeS 6 0 n:=by
  refine(?_ :AtG N (g_comm_Mobility false n) _);unfold g_comm_Mobility;refine .skip (.call (fun(r:Int)=>r=0) ⟨_,flag_v N,rfl⟩ fun r4 h4=>?_)
  subst h4
  repeat first |refine .skip ?_ |refine .inl ?_ |refine .unroll ?_ |refine .tidy rfl ?_
  refine .done rfl (v8e rfl rfl ?_ ?_ ?_ ?_ ?_ ?_)
  ·refine(w8k (K:=1) (by kernel_rfl) (by decide)).trans ?_
   simp only[madeS];omega
  ·refine(w8k (K:=1) (by kernel_rfl) (by decide)).trans ?_
   simp only[madeS];omega
  ·refine(w8k (K:=16777216) (by kernel_rfl) (by decide)).trans ?_
   rw[w64u h0 (by omega)];simp only[madeS]
  ·refine(w8k (K:=65536) (by kernel_rfl) (by decide)).trans ?_
   rw[w64u h0 (by omega)];simp only[madeS]
  ·refine(w8k (K:=256) (by kernel_rfl) (by decide)).trans ?_
   rw[w64u h0 (by omega)];simp only[madeS]
  ·refine(w8k (K:=1) (by kernel_rfl) (by decide)).trans ?_
   rw[w64u h0 (by omega)];simp only[madeS];omega
 obtain⟨r,e,rfl⟩:=h;exact e
end Go.L
