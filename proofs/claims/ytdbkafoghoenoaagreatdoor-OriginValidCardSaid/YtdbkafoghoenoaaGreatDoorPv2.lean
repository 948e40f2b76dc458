/- OriginValid: all routes are valid, with ascending keys, from the leaf itself, and no two leaves share a key. No conditions. -/
import Derived.Test.YtdbkafoghoenoaaGreatDoorPo
set_option linter.unusedSectionVars false
set_option linter.unusedSimpArgs false
set_option linter.unusedVariables false
set_option maxRecDepth 100000
namespace Go.L
open Go.AM Go.Sort
theorem light_at(n:Nat)(l:List Int)(u:List Bool)(ns:List Near)(cs:List Claim):At (c_law32_light.S n (l,u,ns,cs)) (fun r:Bool=>r=true→ns.length≤30∧cs.length≤30∧u.length≤30):=by
 refine(?_ :AtG n (g_law32_light l u ns cs) _);unfold g_law32_light;refine .skip (.op () rfl (.skip (.br (fun h1=>.skip (.op () rfl (.skip (.br (fun h2=>.skip (.op () rfl (.skip (.br (fun h3=>.skip (.op () rfl (.skip (.done rfl fun h4=>?_)))) fun _=>.skip (.done rfl fun h=>(by cases h)))))) fun _=>.skip (.done rfl fun h=>(by cases h)))))) fun _=>.skip (.done rfl fun h=>(by cases h)))))
 simp only[decide_eq_true_eq]at h2 h3 h4;omega
def portV(f:Fabric)(up:List Bool):List Bool:=up.take f.Segments.length++(List.replicate f.Segments.length false).drop up.length
theorem portV_len(f:Fabric)(up:List Bool):(portV f up).length=f.Segments.length:=by
 unfold portV;rw[List.length_append,List.length_take,List.length_drop,List.length_replicate];omega
theorem ports_at(n:Nat)(f:Fabric)(up:List Bool)(hs:f.Segments.length≤1000):At (c_law32_ports.S n (f,up)) (fun r:List Bool=>r=portV f up):=by
 have e:Int.toNat ((f.Segments.length:Nat):Int)=f.Segments.length:=by omega
 refine(?_ :AtG n (g_law32_ports f up) _);unfold g_law32_ports;refine .skip (.op () rfl (.op () (ifU ⟨by omega,by rw[e];simp[roomy];omega⟩) (.skip (.op () (ifU rfl) (.skip (.done ?_ ?_))))))
 ·simp only[tsOk,fzRow,e,List.length_append,List.length_take,List.length_drop,List.length_replicate,List.length_map];simp;omega
 ·rw[e,List.length_replicate];rfl
theorem fab_at(n:Nat)(hn:5000≤n)(l:List Int):At (c_kit_Fabric.S n l) Vf:=fabric_valid l hn
theorem rlp_at(n:Nat)(x:Int)(h0:0≤x)(h1:x<32):At (c_ref01_Loopback.S n x) (fun(r:Int×Int)=>r=(lpV x,0)):=by
 refine(?_ :AtG n (g_ref01_Loopback x) _);refine .skip (.br (fun h=>(by simp only[decide_eq_true_eq]at h;omega)) fun _=>.skip (.br (fun h=>(by simp only[decide_eq_true_eq]at h;omega)) fun _=>.skip (.done rfl ?_)))
 show(IntKind.wrap .u32 ((IntKind.wrap .u32 ((184483840:Int)+(IntKind.wrap .u32 x)))+(1:Int)),(0:Int))=(lpV x,0);rw[w32 h0 (by omega),w32 (x:=184483840+x) (by omega) (by omega),w32 (x:=184483840+x+1) (by omega) (by omega)];unfold lpV
 rw[show(184483840+x+1:Int)=184483841+x by omega]
theorem allO_len(o:origin_origin)(hg:Gd o.fabric)(hne:o.near.length≤1000):(allO o).length≤62184:=by
 have a1:=fil_len (carO o) (floodR o) 32;have a2:=fil_len (shB o) (segR o) o.fabric.Segments.length;have a3:=fil_len (shB o) (wholeR o) o.fabric.Segments.length;have a4:=fla_len (shB o) (fun s=>(sgD o.fabric s).BDs.map (partR o s)) 1000 o.fabric.Segments.length fun j hj=>by
  rw[List.length_map];exact(hg.seg _ (at_inD (α:=Segment) ⟨[],[]⟩ (i:=(j:Int)) (by omega) (by omega)).2).2.1
 have a5:=flat2_len o (useF o o.near);have a6:=useF_len o o.near;have a7:=fil_len (prefB o) (prefR o) 32;have:=hg.segs;unfold allO carL shL;simp only[List.length_append];omega
theorem sortU_idem{l:List (V8 Int)}(h:∀c∈l,okC c):sortU (sortU l)=sortU l:=
 (sortU_ext (sortU l) (fun c hc=>h c ((sortU_mem l c).1 hc)) (sortU_strict l h) fun _=>Iff.rfl).symm
theorem first_enc{l:List (V8 Int)}(h:CIn l):firstC (sortU l) 2=some enC:=by
 unfold firstC;have hm:enC∈sortU l:=(sortU_mem l enC).2 h.enc;have hk:kindS enC=2:=by decide
 cases e:(sortU l).find? fun c=>kindS c==2 with
 |none=>
  have:=List.find?_eq_none.1 e enC hm;rw[hk]at this;exact absurd rfl this
 |some c=>
  have h1:=List.mem_of_find?_eq_some e;have h2:=List.find?_some e;rw[h.one c ((sortU_mem l c).1 h1) (by simpa using h2)]
theorem encapOf_at(n:Nat)(hn:5000≤n){l:List (V8 Int)}(h:CIn l):At (c_ref03_EncapOf.S n (sortU l)) (fun r:Int×Bool=>r=(8,true)):=by
 have hl:=sortU_len l;have:=h.len;have e:=first_run n (sortU l) 2 (by omega) (by omega) fun c hc=>h.ok c ((sortU_mem l c).1 hc)
 rw[first_enc h]at e;have hn8:numC enC=8:=by decide
 refine(?_ :AtG n (g_ref03_EncapOf (sortU l)) _);refine .skip (.call (fun r=>r=(numC enC,true)) ⟨_,e,rfl⟩ fun r2 h2=>.skip (.done rfl ?_))
 subst h2;rw[hn8];decide
theorem get_prev{l:List Route}{R:Route→Route→Prop}(hp:l.Pairwise R){x:Route}{pre post:List Route}(hl:l=pre++x::post)(h0:0<pre.length):∃y,at? l ((pre.length:Int) - 1)=some y∧R y x:=by
 have h1:pre.length - 1<pre.length:=by omega
 refine⟨pre[pre.length - 1],?_,?_⟩
 ·unfold at?;rw[if_pos (by omega),hl,show((pre.length:Int) - 1).toNat=pre.length - 1 by omega,List.getElem?_append_left h1]
  exact List.getElem?_eq_getElem h1
 ·rw[hl,List.pairwise_append]at hp;exact hp.2.2 _ (List.getElem_mem h1) x (by simp)
theorem leaf_ne{a b:Int}(h:a≠b){x y:Route}(hx:Orig (lpV a) x)(hy:Orig (lpV b) y):cmpN x.N y.N≠0:=by
 intro hc;have:=(cmpN_eq hc).2.1;obtain⟨u,u0,u1,e1⟩:=hx.rd;obtain⟨v,v0,v1,e2⟩:=hy.rd;rw[e1,e2]at this;unfold rdS lpV at this;omega
theorem valid_at(n:Nat)(hn:100000≤n)(nums:List Int)(a b:Int)(up:List Bool)(near:List Near)(claims:List Claim)(hnr:∀x∈near,inW x.IP)(hseq:∀c∈claims,0≤c.Seq∧c.Seq<4294967296):
 At (c_law32_OriginValid.S n (nums,a,b,up,near,claims)) (fun r:Bool=>r=true):=by
 refine(?_ :AtG n (g_law32_OriginValid nums a b up near claims) _);unfold g_law32_OriginValid;refine .skip (.call _ (lives_at n (by omega)) fun r7 h7=>.skip (.br (fun h=>(by rw[h7]at h;cases h)) fun _=>?_))
 refine .skip (.call _ (light_at n nums up near claims) fun r9 h9=>.skip (.br (fun h=>.skip (.done rfl rfl)) fun h=>?_))
 obtain⟨hne,hcl,-⟩:=h9 (nbF h);refine .skip (.call _ (fab_at n (by omega) nums) fun(f:Fabric) hv=>?_)
 have hL:=hv.leaves;have hS:=hv.segments;refine .skip (.call _ (pick_at n a f.Leaves (by omega) (by omega)) fun(a':Int) ha=>.skip (.call _ (pick_at n b f.Leaves (by omega) (by omega)) fun(b':Int) hb=>?_))
 refine .skip (.call _ (rlp_at n a' ha.1 (by omega)) fun r14 h14=>?_)
 subst h14;refine .skip (.call _ (ports_at n f up (by omega)) fun r15 h15=>?_)
 subst h15;refine .skip (.call _ (routes_x n (by omega) hv (self:=a') ha (portV_len f up) (by omega) (by omega) hseq) fun(l:List Route) hl=>?_)
 refine .skip (.call _ (ports_at n f up (by omega)) fun r17 h17=>?_)
 subst h17;refine .skip (.call _ (routes_x n (by omega) hv (self:=b') hb (portV_len f up) (by omega) (by omega) hseq) fun(m:List Route) hm=>?_)
 have hlo:∀x∈l,Orig (lpV a') x:=fun x hx=>orig_of hv ha (portV f up) hnr claims x (hl.1.subset hx)
 have hmo:∀x∈m,Orig (lpV b') x:=fun x hx=>orig_of hv hb (portV f up) hnr claims x (hm.1.subset hx)
 have hll:l.length≤62184:=by rw[hl.1.length_eq];exact allO_len _ (gd_of hv) (by show near.length≤_;omega)
 have hml:m.length≤62184:=by rw[hm.1.length_eq];exact allO_len _ (gd_of hv) (by show near.length≤_;omega)
 refine .skip ?_;refine .loop (fun i:Int=>IdxI l (fun pre (_:Unit)=>True) (i,())) (fun i=>l.length - i.toNat) (Sum.elim (fun _:Unit=>False) fun _=>True) rfl (IdxI.start trivial) (by simp;omega) (fun i hi=>?_) (fun t ht=>?_)
 rotate_left
 ·cases t with
  |inl t=>exact ht.elim
  |inr t=>exact .skip (.done rfl rfl)
 refine .skip (.op () rfl (.skip (.br (fun h=>?_) fun h=>.skip (.done rfl (hi.fin h)))))
 obtain⟨x,pre,h1,h2,-,⟨h5,post,jl⟩,h4⟩:=hi.get h
 replace h5:i=((pre.length:Nat):Int):=h5
 have hpl:pre.length≤l.length:=by have:=congrArg List.length jl;simp only[List.length_append]at this;omega
 have hx:=hlo x h2;obtain⟨cl,ct,hatt,hci,hct⟩:=hx.att;have hsl:=sortU_len cl;have hcl20:=hci.len;refine .skip (.op x h1 (.skip (.call _ (check4_at n hx.n) fun r70 h70=>.skip (.br (fun h=>(by rw[h70]at h;cases h)) fun _=>?_))))
 refine .skip (.call (fun r:Int=>r=0) (by rw[hatt];exact check5_at n (by omega) hct) fun r72 h72=>.skip (.br (fun h=>(by rw[h72]at h;cases h)) fun _=>?_))
 refine .skip (.br (fun h=>(by rw[hatt]at h;simp[atR]at h)) fun _=>.skip (.br (fun h=>(by rw[hx.peer]at h;cases h)) fun _=>.skip (.br (fun h=>(by rw[hx.stale]at h;cases h)) fun _=>.skip (.br (fun h=>(by rw[hatt]at h;cases h)) fun _=>.skip (.br (fun h=>(by rw[hatt]at h;cases h)) fun _=>?_)))))
 have hso:At (c_ref03_Sort.S n x.A.Comms) (fun r:List (V8 Int)=>r=x.A.Comms):=by
  rw[hatt];refine⟨_,refSort_run n (sortU cl) (by omega) (by omega) fun c hc=>hci.ok c ((sortU_mem cl c).1 hc),?_⟩
  exact sortU_idem hci.ok
 have hsa:At (c_kit_Same_Comm.S n (x.A.Comms,x.A.Comms)) (fun r:Bool=>r=true):=sameC_at n _ (by rw[hatt];show(sortU cl).length<n;omega) (by rw[hatt];show(sortU cl).length<_;omega)
 have hen:At (c_ref03_EncapOf.S n x.A.Comms) (fun r:Int×Bool=>r=(8,true)):=by rw[hatt];exact encapOf_at n (by omega) hci
 refine .skip (.br (fun hgt=>?_) fun hgt=>?_)
 ·simp only[decide_eq_true_eq]at hgt;obtain⟨y,y1,y2⟩:=get_prev hl.2 jl (by omega)
  have hym:y∈l:=(at_mem y1).2.2;refine .skip (.op y (by rw[wrap_i64 (by omega) (by omega),h5];exact y1) (.skip (.call _ (compare_at n y.N x.N (hlo y hym).n.ok hx.n.ok) fun r80 h80=>.skip (.br (fun h=>(by rw[h80]at h;simp only[decide_eq_true_eq]at h;omega)) fun _=>?_))))
  refine .skip (.call _ hso fun r82 h82=>?_)
  subst h82;refine .skip (.call _ hsa fun r83 h83=>.skip (.br (fun h=>(by rw[h83]at h;cases h)) fun _=>?_))
  refine .skip (.call _ hen fun r85 h85=>?_)
  subst h85;refine .skip (.br (fun h=>(by cases h)) fun _=>.skip (.br (fun h=>(by cases h)) fun _=>.skip ?_))
  refine .loop (fun k:Int=>IdxI m (fun pre (_:Unit)=>True) (k,())) (fun k=>m.length - k.toNat) (Sum.elim (fun _:Unit=>False) fun _=>True) rfl (IdxI.start trivial) (by simp;omega) (fun k hk=>?_) (fun t ht=>?_)
  ·refine .skip (.op () rfl (.skip (.br (fun h=>?_) fun h=>.skip (.done rfl (hk.fin h)))))
   obtain⟨z,pre',k1,k2,-,-,k4⟩:=hk.get h;refine .skip (.br (fun hab=>?_) fun hab=>.skip (.done rfl trivial))
   refine .skip (.op z k1 (.skip (.call _ (compare_at n x.N z.N hx.n.ok (hmo z k2).n.ok) fun r90 h90=>.skip (.br (fun h=>?_) fun _=>.skip (.done rfl (k4 (by omega) () trivial))))))
   rw[h90,beq_iff_eq]at h;exact absurd h (leaf_ne (by simpa using hab) hx (hmo z k2))
  ·cases t with
   |inl t=>exact ht.elim
   |inr t=>exact .skip (.done rfl (h4 (by omega) () trivial))
 ·refine .skip (.call _ hso fun r82 h82=>?_)
  subst h82;refine .skip (.call _ hsa fun r83 h83=>.skip (.br (fun h=>(by rw[h83]at h;cases h)) fun _=>?_))
  refine .skip (.call _ hen fun r85 h85=>?_)
  subst h85;refine .skip (.br (fun h=>(by cases h)) fun _=>.skip (.br (fun h=>(by cases h)) fun _=>.skip ?_))
  refine .loop (fun k:Int=>IdxI m (fun pre (_:Unit)=>True) (k,())) (fun k=>m.length - k.toNat) (Sum.elim (fun _:Unit=>False) fun _=>True) rfl (IdxI.start trivial) (by simp;omega) (fun k hk=>?_) (fun t ht=>?_)
  ·refine .skip (.op () rfl (.skip (.br (fun h=>?_) fun h=>.skip (.done rfl (hk.fin h)))))
   obtain⟨z,pre',k1,k2,-,-,k4⟩:=hk.get h;refine .skip (.br (fun hab=>?_) fun hab=>.skip (.done rfl trivial))
   refine .skip (.op z k1 (.skip (.call _ (compare_at n x.N z.N hx.n.ok (hmo z k2).n.ok) fun r90 h90=>.skip (.br (fun h=>?_) fun _=>.skip (.done rfl (k4 (by omega) () trivial))))))
   rw[h90,beq_iff_eq]at h;exact absurd h (leaf_ne (by simpa using hab) hx (hmo z k2))
  ·cases t with
   |inl t=>exact ht.elim
   |inr t=>exact .skip (.done rfl (h4 (by omega) () trivial))
end Go.L
