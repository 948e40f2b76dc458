/- OriginEntry: an entry adds exactly its own routes. No conditions. -/
import Derived.Test.YtdbkafoghoenoaaGreatDoorPv2
import Derived.Test.YtdbkafoghoenoaaGreatDoorWv
set_option linter.unusedSectionVars false
set_option linter.unusedSimpArgs false
set_option linter.unusedVariables false
set_option maxRecDepth 100000
namespace Go.L
open Go.AM Go.Sort
theorem wrap_nat64(w:BitVec 64):IntKind.wrap .u64 (w.toNat:Int)=(w.toNat:Int):=by
 rw[wrap_u64];have:=w.isLt;omega
theorem ofInt_nat64(w:BitVec 64):BitVec.ofInt 64 (w.toNat:Int)=w:=by
 apply BitVec.eq_of_toNat_eq;rw[BitVec.toNat_ofInt];have:=w.isLt;omega
theorem mM_rng(x:Int):0≤mM x∧mM x≤281474976710655∧castM (mM x)=false:=by
 have e:mM x=(((BitVec.ofInt 64 x&&& BitVec.ofInt 64 281474976710655)&&& ~~~ BitVec.ofInt 64 1099511627776).toNat:Int):=by
  show IntKind.wrap .u64 (((BitVec.ofInt 64 (IntKind.wrap .u64 (((BitVec.ofInt 64 x&&& BitVec.ofInt 64 281474976710655).toNat:Nat):Int))&&& ~~~ BitVec.ofInt 64 1099511627776).toNat:Nat):Int)=_;rw[wrap_nat64,wrap_nat64,ofInt_nat64]
 generalize hv:(BitVec.ofInt 64 x&&& BitVec.ofInt 64 281474976710655)&&& ~~~ BitVec.ofInt 64 1099511627776=v at e;have hle:v.toNat≤281474976710655:=by
  rw[← hv,BitVec.toNat_and,BitVec.toNat_and];refine Nat.le_trans Nat.and_le_left (Nat.le_trans Nat.and_le_right ?_)
  decide
 have hbit:v.getLsbD 40=false:=by
  rw[← hv,BitVec.getLsbD_and,BitVec.getLsbD_not];have:(BitVec.ofInt 64 1099511627776).getLsbD 40=true:=by decide
  rw[this];simp
 have hdiv:v.toNat / 1099511627776 % 2=0:=by
  have h:=hbit;unfold BitVec.getLsbD at h;rw[Nat.testBit_eq_decide_div_mod_eq]at h;have h2:=of_decide_eq_false h;have:(2:Nat) ^ 40=1099511627776:=by decide
  rw[this]at h2;omega
 rw[e];refine⟨by omega,by omega,?_⟩
 unfold castM;have e1:(2:Int) ^ (min (Int.toNat (40:Int)) (IntKind.bits .u64))=1099511627776:=by decide
 rw[e1,Int.fdiv_eq_ediv_of_nonneg _ (by omega)]
 have e2:((v.toNat:Int) / 1099511627776)=((v.toNat / 1099511627776:Nat):Int):=by omega
 rw[e2];have e3:(BitVec.ofInt 64 ((v.toNat / 1099511627776:Nat):Int)&&& BitVec.ofInt 64 1).toNat=0:=by
  rw[BitVec.toNat_and,BitVec.toNat_ofInt];have h1:(BitVec.ofInt 64 1).toNat=1:=by decide
  rw[h1,Nat.and_one_is_mod];omega
 rw[e3];have:(IntKind.wrap .u64 ((0:Nat):Int) != 0)=false:=by decide
 rw[this,Bool.and_false]
theorem ownN_at(n:Nat)(k:Nat)(l:List Near)(hl:l.length≤1000):At ((cn_kit_Own_Near k).S n l) (fun r:List Near=>r=l):=by
 refine(?_ :AtG n (gn_kit_Own_Near l) _);refine .skip (.op () (ifU ⟨rfl,by simp[roomy];omega⟩) (.skip (.done rfl ?_)))
 rfl
theorem mob_at(n:Nat)(hn:5000≤n){l:List (V8 Int)}(hl:l.length≤1000)(hok:∀c∈l,okC c){q:Int}(q0:0≤q)(q1:q<4294967296)
 (hq:if q=0 then ∀c∈l,kindS c≠3 else(madeS 6 0 q∈l∧∀c∈l,kindS c=3→c=madeS 6 0 q)):At (c_ref03_MobilityOf.S n (sortU l)) (fun r:Bool×Int×Bool=>r.2.1=q∧r.2.2=decide (q>0)):=by
 have hsl:=sortU_len l;have e:=first_run n (sortU l) 3 (by omega) (by omega) fun c hc=>hok c ((sortU_mem l c).1 hc)
 refine(?_ :AtG n (g_ref03_MobilityOf (sortU l)) _);by_cases h0:q=0
 ·rw[if_pos h0]at hq;have hf:firstC (sortU l) 3=none:=by
   unfold firstC;rw[List.find?_eq_none];intro c hc;have:=hq c ((sortU_mem l c).1 hc);simpa using this
  rw[hf]at e;refine .skip (.call (fun r=>r=((0:Int),false)) ⟨_,e,rfl⟩ fun r2 h2=>.skip (.done rfl ?_))
  subst h2 h0;exact⟨by decide,by decide⟩
 ·rw[if_neg h0]at hq;have hf:firstC (sortU l) 3=some (madeS 6 0 q):=by
   unfold firstC;cases e2:(sortU l).find? fun c=>kindS c==3 with
   |none=>
    have:=List.find?_eq_none.1 e2 _ ((sortU_mem l _).2 hq.1);simp[kindS,madeS]at this
   |some c=>
    have h1:=List.mem_of_find?_eq_some e2;have h2:=List.find?_some e2;rw[hq.2 c ((sortU_mem l c).1 h1) (by simpa using h2)]
  rw[hf]at e;have hnum:numC (madeS 6 0 q)=q:=made_num 6 0 q0 (by omega)
  refine .skip (.call (fun r=>r=(numC (madeS 6 0 q),true)) ⟨_,e,rfl⟩ fun r2 h2=>.skip (.done rfl ?_))
  subst h2;rw[hnum];exact⟨w32 q0 q1,(decide_eq_true (by omega)).symm⟩
noncomputable def enT(f:Fabric)(sg:Int)(g:Segment)(bd leaf x5 ip:Int)(hi:Bool)(q:Int)(near:List Near):G prog Bool:=
 .skip 2<|.op (lenO f.Segments eSegment) fun _=>.op (mksO false eB 1 1 2 (((List.length f.Segments):Nat):Int)) fun _=>.skip 2<|.loop (.one (List Bool)) [.keep [1,2,3,4,5,6,7,8,19,22,23]] (fun(a:(Prod Int (List Bool)))=>⟨(ap [.junk,(.sc (.int .i64 sg)),(.sc (.int .i64 bd)),(.sc (.int .i64 leaf)),(.sc (.int .u64 (mM x5))),(.sc (.int .u32 ip)),(.sc (.bool hi)),(.sc (.int .u32 q)),(.lst (List.map eNear near))] (ap (jl 10) (ap [(.ptr 0 0 0 0),.junk,.junk,(.sl 2 0 1 0 (List.length (List.replicate (Int.toNat (((List.length f.Segments):Nat):Int)) false))),.sc (.int .i64 a.1)] (jl 210)))),[.row 0 19 [eFabric f],.row 0 2 [eSegment g],.row 0 1 (a.2.map eB)],[]⟩)
  (fun(t:(List Bool))=>(.exit 2,⟨(ap [.junk,(.sc (.int .i64 sg)),(.sc (.int .i64 bd)),(.sc (.int .i64 leaf)),(.sc (.int .u64 (mM x5))),(.sc (.int .u32 ip)),(.sc (.bool hi)),(.sc (.int .u32 q)),(.lst (List.map eNear near))] (ap (jl 10) (ap [(.ptr 0 0 0 0),.junk,.junk,(.sl 2 0 1 0 (List.length (List.replicate (Int.toNat (((List.length f.Segments):Nat):Int)) false)))] (jl 211)))),[.row 0 19 [eFabric f],.row 0 2 [eSegment g],.row 0 1 (t.map eB)],[]⟩)) ((0:Int),(List.replicate (Int.toNat (((List.length f.Segments):Nat):Int)) false))
  (fun(a94:(Prod Int (List Bool)))=>.skip 4<|.br 97 (decide (a94.1<(((List.length (List.replicate (Int.toNat (((List.length f.Segments):Nat):Int)) false)):Nat):Int))) (.skip 3<|.op (idxS (List.length (List.replicate (Int.toNat (((List.length f.Segments):Nat):Int)) false)) 1 2 0 a94.1) fun _=>.op (stO a94.2 eB 1 2 0 (Int.toNat a94.1) 0 fun v=>true) fun x95=>.skip 3<|.done [.keep [1,2,3,4,5,6,7,8,19,22,23]] (.inl ((IntKind.wrap .i64 (a94.1+(1:Int))),(List.set a94.2 (Int.toNat a94.1) true)))) (.skip 1<|.done [.keep [1,2,3,4,5,6,7,8,19,22]] (.inr a94.2)))
  (fun(t98:(List Bool))=>.skip 13<|.tidy [.frz (fzRow (.s 22) 2 0 1 (List.length (List.replicate (Int.toNat (((List.length f.Segments):Nat):Int)) false)) t98 eB fun _=>rfl)]<|.skip 2<|.tidy [.frz (fzRow (.s 24) 3 0 4 2 [(Claim.mk bd (mM x5) q false),(Claim.mk bd (mM x5) (IntKind.wrap .u32 (q+(1:Int))) false)] eClaim fun _=>rfl)]<|.skip 1<|.callR (cv_origin_Routes 4) (f,leaf,t98,near,[(Claim.mk bd (mM x5) q false),(Claim.mk bd (mM x5) (IntKind.wrap .u32 (q+(1:Int))) false)]) fun(r99:(List Route))=>.skip 5<|.callR (cn_kit_Own_Near 6) near fun(r100:(List Near))=>.skip 7<|.op (appO (List.length r100) r100 [(Near.mk bd sg (mM x5) ip hi (0:Int))] eNear 6 40 6 0 5 [4]) fun _=>.skip 1<|.call1 c_origin_Routes_d 6 1 [] ((r100++[(Near.mk bd sg (mM x5) ip hi (0:Int))]),f,leaf,t98,(List.length (r100++[(Near.mk bd sg (mM x5) ip hi (0:Int))])),[(Claim.mk bd (mM x5) q false),(Claim.mk bd (mM x5) (IntKind.wrap .u32 (q+(1:Int))) false)]) fun(r101:(List Route))=>.skip 3<|.loop (.two (.one Unit) (.one Int)) [.keep [1,2,4,5,6,7,19,25,26,27,28],.cut [0] [] []] (fun(a:(Prod Int Int))=>⟨(ap [.junk,(.sc (.int .i64 sg)),(.sc (.int .i64 bd)),.junk,(.sc (.int .u64 (mM x5))),(.sc (.int .u32 ip)),(.sc (.bool hi)),(.sc (.int .u32 q))] (ap (jl 11) (ap [(.ptr 0 0 0 0)] (ap (jl 5) (ap [(.lst (List.map eRoute r99)),(.lst (List.map eRoute r101)),.sc (.int .i64 a.1),.sc (.int .i64 a.2)] (jl 205)))))),[.row 0 19 [eFabric f]],[]⟩)
  (Sum.elim (fun(_:Unit)=>(.ret,⟨(ap (jl 18) (ap [(.sc (.bool false))] (jl 215))),[.row 0 19 [eFabric f]],[]⟩)) (fun(t:Int)=>(.exit 4,⟨(ap [.junk,.junk,(.sc (.int .i64 bd)),.junk,.junk,.junk,(.sc (.bool hi))] (ap (jl 12) (ap [(.ptr 0 0 0 0)] (ap (jl 5) (ap [(.lst (List.map eRoute r99)),(.lst (List.map eRoute r101)),.sc (.int .i64 t)] (jl 206)))))),[.row 0 19 [eFabric f]],[]⟩))) ((0:Int),(0:Int))
  (fun(a102:(Prod Int Int))=>.skip 2<|.op (lenO r101 eRoute) fun _=>.skip 1<|.br 137 (decide (a102.2<(((List.length r101):Nat):Int))) (.skip 3<|.op (idxO r101 eRoute 38 a102.2) fun x103=>.skip 5<|.call c_law32_contains (r99,x103) fun(r104:Bool)=>.br 146 r104 (.skip 4<|.done [.keep [1,2,4,5,6,7,19,25,26,27,28],.cut [0] [] []] (.inl (a102.1,(IntKind.wrap .i64 (a102.2+(1:Int)))))) (.skip 7<|.call c_ref03_MobilityOf x103.A.Comms fun(r106:(Prod Bool (Prod Int Bool)))=>.skip 12<|.br 161 (x103.N.Kind != (2:Int)) (.skip 52<|.done [.keep [18],.cut [0] [] []] (.inr (.inl ()))) (.skip 7<|.br 168 (x103.N.MAC != (mM x5)) (.skip 45<|.done [.keep [18],.cut [0] [] []] (.inr (.inl ()))) (.skip 6<|.op (idxO f.BDs eBD 6 bd) fun x109=>.skip 5<|.br 180 (x103.N.Label != x109.VNI) (.skip 33<|.done [.keep [18],.cut [0] [] []] (.inr (.inl ()))) (.skip 5<|.call c_ref22_ESI (f,sg) fun(r111:(V10 Int))=>.skip 3<|.br 189 (!((x103.N.ESI.a0==r111.a0)&&((x103.N.ESI.a1==r111.a1)&&((x103.N.ESI.a2==r111.a2)&&((x103.N.ESI.a3==r111.a3)&&((x103.N.ESI.a4==r111.a4)&&((x103.N.ESI.a5==r111.a5)&&((x103.N.ESI.a6==r111.a6)&&((x103.N.ESI.a7==r111.a7)&&((x103.N.ESI.a8==r111.a8)&&((x103.N.ESI.a9==r111.a9)&&true))))))))))) (.skip 24<|.done [.keep [18],.cut [0] [] []] (.inr (.inl ()))) (.skip 6<|.br 195 (!(r106.2.2==(decide (q>(0:Int))))) (.skip 18<|.done [.keep [18],.cut [0] [] []] (.inr (.inl ()))) (.skip 5<|.br 200 (r106.2.1 != q) (.skip 13<|.done [.keep [18],.cut [0] [] []] (.inr (.inl ()))) (.skip 4<|.br 204 x103.N.HasIP (.skip 7<|.br 211 (x103.N.IP != ip) (.skip 2<|.done [.keep [18],.cut [0] [] []] (.inr (.inl ()))) (.skip 4<|.done [.keep [1,2,4,5,6,7,19,25,26,27,28],.cut [0] [] []] (.inl ((IntKind.wrap .i64 (a102.1+(1:Int))),(IntKind.wrap .i64 (a102.2+(1:Int))))))) (.skip 11<|.done [.keep [1,2,4,5,6,7,19,25,26,27,28],.cut [0] [] []] (.inl ((IntKind.wrap .i64 (a102.1+(1:Int))),(IntKind.wrap .i64 (a102.2+(1:Int)))))))))))))) (.skip 1<|.done [.keep [2,6,19,25,26,27],.cut [0] [] []] (.inr (.inr a102.1))))
  (Sum.elim (fun _=>.done [] false) (fun(t121:Int)=>.skip 3<|.br 213 hi (.skip 3<|.op (idxO f.BDs eBD 6 bd) fun x122=>.skip 4<|.br 221 (x122.Gateway != (0:Int)) (.skip 6<|.br 225 (t121==(2:Int)) (.skip 1<|.op (lenO r101 eRoute) fun _=>.skip 1<|.op (lenO r99 eRoute) fun _=>.skip 5<|.done [] ((((List.length r101):Nat):Int)==(IntKind.wrap .i64 ((((List.length r99):Nat):Int)+(2:Int))))) (.skip 9<|.done [] false)) (.skip 5<|.br 225 (t121==(1:Int)) (.skip 1<|.op (lenO r101 eRoute) fun _=>.skip 1<|.op (lenO r99 eRoute) fun _=>.skip 5<|.done [] ((((List.length r101):Nat):Int)==(IntKind.wrap .i64 ((((List.length r99):Nat):Int)+(1:Int))))) (.skip 9<|.done [] false))) (.skip 13<|.br 225 (t121==(1:Int)) (.skip 1<|.op (lenO r101 eRoute) fun _=>.skip 1<|.op (lenO r99 eRoute) fun _=>.skip 5<|.done [] ((((List.length r101):Nat):Int)==(IntKind.wrap .i64 ((((List.length r99):Nat):Int)+(1:Int))))) (.skip 9<|.done [] false)))))
theorem addr_perm{o1 o2:origin_origin}{nw:Near}(hf:o2.fabric=o1.fabric)(h1:o2.self=o1.self)(h2:o2.address=o1.address)(h3:o2.router=o1.router)(h4:o2.up=o1.up)(h5:o2.claims=o1.claims)(hn:o2.near=o1.near++[nw])(hok:okO o1 nw=true)(hnew:∀m∈o1.near,plN m≠plN nw):(allO o2).Perm (allO o1++addrR o1 nw):=by
 obtain⟨f,s,a,r,u,ne,c⟩:=o1;obtain⟨f',s',a',r',u',ne',c'⟩:=o2;simp only at hf h1 h2 h3 h4 h5 hn hok hnew;subst hf h1 h2 h3 h4 h5 hn;have hu:useF ⟨f',s',a',r',u',ne++[nw],c'⟩ (ne++[nw])=useF ⟨f',s',a',r',u',ne,c'⟩ ne++[nw]:=by
  rw[useF_snoc];have e:useF ⟨f',s',a',r',u',ne++[nw],c'⟩ ne=useF ⟨f',s',a',r',u',ne,c'⟩ ne:=rfl;rw[e,if_pos];refine⟨hok,fun h=>?_⟩
  obtain⟨m,hm,he⟩:=List.mem_map.1 h;exact hnew m (useF_mem _ hm).2 he
 show((((((carL ⟨f',s',a',r',u',ne,c'⟩).map (floodR ⟨f',s',a',r',u',ne,c'⟩)++(shL ⟨f',s',a',r',u',ne,c'⟩).map (segR ⟨f',s',a',r',u',ne,c'⟩))++(shL ⟨f',s',a',r',u',ne,c'⟩).map (wholeR ⟨f',s',a',r',u',ne,c'⟩))++(shL ⟨f',s',a',r',u',ne,c'⟩).flatMap (fun s=>(sgD f' s).BDs.map (partR ⟨f',s',a',r',u',ne,c'⟩ s)))++(useF ⟨f',s',a',r',u',ne++[nw],c'⟩ (ne++[nw])).flatMap (addrR ⟨f',s',a',r',u',ne,c'⟩))++((idx 32).filter (prefB ⟨f',s',a',r',u',ne,c'⟩)).map (prefR ⟨f',s',a',r',u',ne,c'⟩)).Perm _
 rw[hu,List.flatMap_append];unfold allO;simp only[List.append_assoc,List.flatMap_cons,List.flatMap_nil,List.append_nil];refine List.Perm.append_left _ (List.Perm.append_left _ (List.Perm.append_left _ (List.Perm.append_left _ (List.Perm.append_left _ ?_))));exact List.perm_append_comm
section
variable {f:Fabric} (hv:Vf f) {sg bd leaf x5 ip q:Int} {hi:Bool} {near:List Near}
 (hsg:0≤sg∧sg<(f.Segments.length:Int)) (hbd:bd∈(sgD f sg).BDs) (hlf:leaf∈(sgD f sg).Leaves) (hm0:mM x5≠0) (hip:inW ip) (hih:hi=false→ip=0) (hq:0≤q∧q<4294967296) (hne:near.length≤30) (hnr:∀x∈near,inW x.IP) (hnew:∀x∈near,x.MAC≠mM x5)
include hv hsg hbd hlf hm0 hip hih hq hne hnr hnew
theorem enT_at(n:Nat)(hn:100000≤n):AtG n (enT f sg (sgD f sg) bd leaf x5 ip hi q near) (fun r:Bool=>r=true):=by
 have hS:=hv.segments;have hB:=hv.bds;have hLv:=hv.leaves;have hsm:sgD f sg∈f.Segments:=(at_inD _ hsg.1 hsg.2).2;obtain⟨b0,b1⟩:=(hv.seg _ hsm).2.2.2.1 bd hbd;have hleaf:=(hv.seg _ hsm).1.2.2.1 leaf hlf;obtain⟨m0,m1,m2⟩:=mM_rng x5;have eL:Int.toNat ((f.Segments.length:Nat):Int)=f.Segments.length:=by omega
 generalize hcl:[(Claim.mk bd (mM x5) q false),(Claim.mk bd (mM x5) (IntKind.wrap .u32 (q+(1:Int))) false)]=cl;have hcl2:cl.length=2:=by rw[← hcl];rfl
 have hseq:∀c∈cl,0≤c.Seq∧c.Seq<4294967296:=by
  intro c hc;rw[← hcl]at hc;simp only[List.mem_cons,List.not_mem_nil,or_false]at hc;rcases hc with rfl |rfl
  ·exact hq
  ·show 0≤IntKind.wrap .u32 (q+1)∧_;rw[wrap_u32];simp only;omega
 unfold enT;rw[hcl];refine .skip (.op () rfl (.op () (ifU ⟨by omega,by rw[eL];simp[roomy];omega⟩) (.skip ?_)))
 refine .loop (fun a:Int×List Bool=>NumI f.Segments.length (fun i l=>l.length=f.Segments.length∧∀k,k<i→l[k]? =some true) a) (fun a=>f.Segments.length - a.1.toNat) (fun l:List Bool=>l.length=f.Segments.length∧∀k,k<f.Segments.length→l[k]? =some true) rfl (NumI.start ⟨by rw[eL,List.length_replicate],by omega⟩) (by simp;omega) (fun a ha=>?_) (fun(up:List Bool) hup=>?_)
 ·refine .skip (.br (fun h=>?_) fun h=>.skip (.done rfl (ha.fin (by simp only[eL,List.length_replicate,decide_eq_false_iff_not]at h;exact h))))
  simp only[eL,List.length_replicate,decide_eq_true_eq]at h;obtain⟨i,h1,h2,⟨h3,h3b⟩,h4⟩:=ha.get h;have hbx:a.2[a.1.toNat]? =some (a.2[i]'(by omega)):=by rw[h1,Int.toNat_natCast];exact List.getElem?_eq_getElem _
  refine .skip (.op () (by show(if 0≤a.1∧a.1<(((List.replicate (Int.toNat ((f.Segments.length:Nat):Int)) false).length:Nat):Int)then some ()else none)=_;exact ifU ⟨by omega,by rw[eL,List.length_replicate];omega⟩) (.op _ hbx (.skip (.done rfl (h4 (by omega) _ ⟨by rw[List.length_set];exact h3,fun k hk=>?_⟩)))))
  rw[h1,Int.toNat_natCast,List.getElem?_set];by_cases hki:i=k
  ·rw[if_pos hki,if_pos (by omega)]
  ·rw[if_neg hki];exact h3b k (by omega)
 have hupl:=hup.1;have hupt:∀{s:Int},0≤s→s<(f.Segments.length:Int)→(at? up s).getD false=true:=fun {s} h0 h1=>by
  unfold at?;rw[if_pos h0,hup.2 s.toNat (by omega)];rfl
 generalize hnw:Near.mk bd sg (mM x5) ip hi 0=nw;have hlive:liveO (mkA f leaf up near cl) sg=true:=by
  unfold liveO;show(decide (0≤sg)&&(decide (sg<(up.length:Int))&&((at? up sg).getD false&&elI (sgD f sg).Leaves leaf)))=true;rw[decide_eq_true hsg.1,decide_eq_true (by rw[hupl];exact hsg.2),hupt hsg.1 hsg.2,elI_iff.2 hlf];rfl
 have hok:okO (mkA f leaf up near cl) nw=true:=by
  rw[← hnw];unfold okO;show(liveO (mkA f leaf up near cl) sg&&(elI (sgD f sg).BDs bd&&(!(mM x5==0)&&(decide (mM x5≤281474976710655)&&(!castM (mM x5)&&(hi||ip==0))))))=true;have e1:(mM x5==0)=false:=by simpa using hm0
  have e2:(hi||ip==0)=true:=by
   cases hh:hi with
   |true=>rfl
   |false=>rw[hih hh];rfl
  rw[hlive,elI_iff.2 hbd,e1,decide_eq_true m1,m2,e2];rfl
 have hpl:∀m∈near,plN m≠plN nw:=fun m hm e=>by
  rw[← hnw]at e;simp only[plN,origin_place.mk.injEq]at e;exact hnew m hm e.2
 have hperm:(allO (mkA f leaf up (near++[nw]) cl)).Perm (allO (mkA f leaf up near cl)++addrR (mkA f leaf up near cl) nw):=addr_perm rfl rfl rfl rfl rfl rfl rfl hok hpl;refine .skip (.tidy (by simp[tsOk,fzRow,eL,hupl]) (.skip (.tidy (by rw[← hcl];rfl) (.skip (.callR _ (routes_x n (by omega) hv (self:=leaf) hleaf hupl (by omega) (by omega) hseq) fun(l:List Route) hl=>?_)))))
 refine .skip (.callR _ (ownN_at n 6 near (by omega)) fun(r40:List Near) h40=>?_)
 replace h40:=h40.symm
 subst h40;refine .skip (.op () (ifU ⟨rfl,by simp[roomy];omega⟩) (.skip ?_))
 have hnr2:∀x∈near++[nw],inW x.IP:=fun x hx=>by
  rcases List.mem_append.1 hx with hx |hx
  ·exact hnr x hx
  ·simp only[List.mem_singleton]at hx;subst hx;rw[← hnw];exact hip
 have hafter:=routes_x n (by omega) hv (self:=leaf) (up:=up) (near:=near++[nw]) (claims:=cl) hleaf hupl (by simp;omega) (by omega) hseq
 refine .call1 (fun m:List Route=>m.Perm (allO (mkA f leaf up (near++[nw]) cl))∧m.Pairwise (fun a b=>cmpN a.N b.N<0)) (by
  show At (if(near++[nw]).length=(near++[nw]).length then c_origin_Routes.S n (f,leaf,up,near++[nw],cl)else none) _
  rw[if_pos rfl];exact hafter) fun(m:List Route) hm=>.skip ?_
 have hmo:∀x∈m,Orig (lpV leaf) x:=fun x hx=>orig_of hv hleaf up hnr2 cl x (hm.1.subset hx)
 have hlm:∀x∈l,x∈m:=fun x hx=>hm.1.symm.subset (hperm.symm.subset (List.mem_append_left _ (hl.1.subset hx)))
 have hll:l.length≤62184:=by rw[hl.1.length_eq];exact allO_len _ (gd_of hv) (by show near.length≤_;omega)
 have hml:m.length≤62184:=by rw[hm.1.length_eq];exact allO_len _ (gd_of hv) (by show(near++[nw]).length≤_;simp;omega)
 generalize hQ:(fun x:Route=>x.N.Kind==2&&x.N.MAC==mM x5)=Q
 have hQ0:∀x∈allO (mkA f leaf up near cl),Q x=false:=fun x hx=>by
  rw[← hQ];by_cases hk:x.N.Kind=2
  ·have:x.N.MAC≠mM x5:=by
    rcases mem_all.1 hx with⟨b,-,rfl⟩ |⟨b,-,rfl⟩ |⟨b,-,rfl⟩ |⟨s,-,b,-,rfl⟩ |⟨mm,hmm,hx⟩ |⟨b,-,rfl⟩
    ·exact absurd hk (by show(3:Int)≠2;omega)
    ·exact absurd hk (by show(4:Int)≠2;omega)
    ·exact absurd hk (by show(1:Int)≠2;omega)
    ·exact absurd hk (by show(1:Int)≠2;omega)
    ·rw[(mem_addr _ hx).2.2];exact hnew mm (useF_mem _ hmm).2
    ·exact absurd hk (by show(5:Int)≠2;omega)
   simp[this]
  ·simp[hk]
 have hQ1:∀x∈addrR (mkA f leaf up near cl) nw,Q x=true:=fun x hx=>by
  obtain⟨k1,-,k3⟩:=mem_addr _ hx;rw[← hQ];simp only[k1,k3];rw[← hnw];simp
 have hin:∀x∈m,(x∈l↔Q x=false):=fun x hx=>by
  constructor
  ·intro h;exact hQ0 x (hl.1.subset h)
  ·intro h;rcases List.mem_append.1 (hperm.subset (hm.1.subset hx))with h1 |h1
   ·exact hl.1.symm.subset h1
   ·rw[hQ1 x h1]at h;cases h
 have hnewR:∀x∈m,Q x=true→x∈addrR (mkA f leaf up near cl) nw:=fun x hx h=>by
  rcases List.mem_append.1 (hperm.subset (hm.1.subset hx))with h1 |h1
  ·rw[hQ0 x h1]at h;cases h
  ·exact h1
 have hcnt:m.countP Q=(addrR (mkA f leaf up near cl) nw).length:=by
  rw[hm.1.countP_eq,hperm.countP_eq,List.countP_append,List.countP_eq_zero.2 (fun x hx=>by rw[hQ0 x hx];simp),List.countP_eq_length.2 hQ1]
  omega
 have hlens:m.length=l.length+(addrR (mkA f leaf up near cl) nw).length:=by
  rw[hm.1.length_eq,hperm.length_eq,List.length_append,hl.1.length_eq]
 have hal:(addrR (mkA f leaf up near cl) nw).length=if hi=true∧(bdD f bd).Gateway≠0 then 2 else 1:=by
  rw[← hnw];unfold addrR;show(if hi=true∧(bdD f bd).Gateway≠0 then _ else _:List Route).length=_
  split<;>rfl
 have hsq:seqO (mkA f leaf up near cl) nw=q:=by
  rw[← hnw,← hcl];unfold seqO;show(((List.cons (Claim.mk bd (mM x5) q false) _).find? fun c=>c.BD==bd&&c.MAC==mM x5).map (·.Seq)).getD 0=q
  rw[List.find?_cons];simp
 have hfact:∀x∈addrR (mkA f leaf up near cl) nw,x.N.Label=(bdD f bd).VNI∧x.N.ESI=(if 1<(sgD f sg).Leaves.length then esV sg else esi0)∧(x.N.HasIP=true→x.N.IP=ip)∧At (c_ref03_MobilityOf.S n x.A.Comms) (fun r:Bool×Int×Bool=>r.2.1=q∧r.2.2=decide (q>0)):=fun x hx=>by
  have hes:esO (mkA f leaf up near cl) sg=(if 1<(sgD f sg).Leaves.length then esV sg else esi0):=by
   unfold esO;show(if(sgD f sg).Leaves.length<2 then esi0 else esV sg)=_
   by_cases h:1<(sgD f sg).Leaves.length
   ·rw[if_pos h,if_neg (by omega)]
   ·rw[if_neg h,if_pos (by omega)]
  have hmac:∀t:List (V8 Int),t.length≤10→(∀c∈t,okC c∧kindS c≠3)→At (c_ref03_MobilityOf.S n (sortU (macC (mkA f leaf up near cl) nw++t))) (fun r:Bool×Int×Bool=>r.2.1=q∧r.2.2=decide (q>0)):=fun t htl ht=>by
   have e:macC (mkA f leaf up near cl) nw=[enC,taC (bdD f nw.BD).Target]++mobL q:=by unfold macC;rw[hsq];rfl
   rw[e];have hmb:(mobL q).length≤1:=by unfold mobL;split<;>simp
   have hk0:∀c∈[enC,taC (bdD f nw.BD).Target],okC c∧kindS c≠3:=by
    intro c hc;simp only[List.mem_cons,List.not_mem_nil,or_false]at hc;rcases hc with rfl |rfl
    ·exact⟨enC_ok,by decide⟩
    ·exact⟨taC_ok _,by simp[kindS,taC,madeS]⟩
   refine mob_at n (by omega) (by simp;omega) (fun c hc=>?_) hq.1 hq.2 ?_
   ·rcases List.mem_append.1 hc with hc |hc
    ·rcases List.mem_append.1 hc with hc |hc
     ·exact(hk0 c hc).1
     ·unfold mobL at hc;split at hc
      ·cases hc
      ·simp only[List.mem_singleton]at hc;subst hc;exact made_ok _ _ _ (by omega) (by omega)
    ·exact(ht c hc).1
   ·split
    ·rename_i h0;intro c hc;rcases List.mem_append.1 hc with hc |hc
     ·rcases List.mem_append.1 hc with hc |hc
      ·exact(hk0 c hc).2
      ·unfold mobL at hc;rw[if_pos h0]at hc;cases hc
     ·exact(ht c hc).2
    ·rename_i h0;have hmq:mobL q=[madeS 6 0 q]:=by unfold mobL;rw[if_neg h0]
     rw[hmq];refine⟨by simp,fun c hc hk=>?_⟩
     rcases List.mem_append.1 hc with hc |hc
     ·rcases List.mem_append.1 hc with hc |hc
      ·exact absurd hk (hk0 c hc).2
      ·simpa using hc
     ·exact absurd hk (ht c hc).2
  have hR:(macR (mkA f leaf up near cl) nw).N.Label=(bdD f bd).VNI∧(macR (mkA f leaf up near cl) nw).N.ESI=(if 1<(sgD f sg).Leaves.length then esV sg else esi0)∧((macR (mkA f leaf up near cl) nw).N.HasIP=true→(macR (mkA f leaf up near cl) nw).N.IP=ip)∧At (c_ref03_MobilityOf.S n (macR (mkA f leaf up near cl) nw).A.Comms) (fun r:Bool×Int×Bool=>r.2.1=q∧r.2.2=decide (q>0)):=by
   refine⟨by rw[← hnw];rfl,by rw[← hes,← hnw];rfl,fun h=>(by cases h),?_⟩
   have:=hmac [] (by simp) (by simp)
   rw[List.append_nil]at this;exact this
  unfold addrR at hx;split at hx
  ·simp only[List.mem_cons,List.not_mem_nil,or_false]at hx;rcases hx with rfl |rfl
   ·exact hR
   ·refine⟨by rw[← hnw];rfl,by rw[← hes,← hnw];rfl,fun _=>by rw[← hnw];rfl,?_⟩
    exact hmac [taC (tnB (mkA f leaf up near cl) nw).Target,madeS 6 3 (rmV leaf)] (by simp) (by
     intro c hc;simp only[List.mem_cons,List.not_mem_nil,or_false]at hc;rcases hc with rfl |rfl
     ·exact⟨taC_ok _,by simp[kindS,taC,madeS]⟩
     ·exact⟨made_ok _ _ _ (by omega) (by omega),by simp[kindS,madeS]⟩)
  ·simp only[List.mem_singleton]at hx;subst hx;exact hR
 obtain⟨hb,hbm⟩:=at_inD (α:=BD) (l:=f.BDs) (i:=bd) ⟨0,0,0,⟨0,0⟩,0⟩ b0 b1;have hb:at? f.BDs bd=some (bdD f bd):=hb;refine .loop (fun a:Int×Int=>∃i:Nat,a.2=(i:Int)∧i≤m.length∧a.1=(((m.take i).countP Q:Nat):Int)) (fun a=>m.length - a.2.toNat) (Sum.elim (fun _:Unit=>False) fun t:Int=>t=((addrR (mkA f leaf up near cl) nw).length:Int)) rfl ⟨0,rfl,Nat.zero_le _,by simp⟩ (by simp;omega) (fun a ha=>?_) (fun t ht=>?_)
 ·obtain⟨i,h1,h2,h3⟩:=ha;refine .skip (.op () rfl (.skip (.br (fun h=>?_) fun h=>.skip (.done rfl ?_))))
  rotate_left
  ·show a.1=_;simp only[decide_eq_false_iff_not]at h;have:i=m.length:=by omega
   subst this;rw[h3,List.take_length,hcnt]
  simp only[decide_eq_true_eq]at h;have hi':i<m.length:=by omega
  have hx1:at? m a.2=some m[i]:=by rw[h1,at?_nat];exact List.getElem?_eq_getElem hi'
  have hxm:m[i]∈m:=List.getElem_mem hi';generalize hxe:m[i]=x at hx1 hxm;have htk:m.take (i+1)=m.take i++[x]:=by rw[List.take_add_one,List.getElem?_eq_getElem hi',hxe];rfl
  have hinc:IntKind.wrap .i64 (a.2+(1:Int))=((i+1:Nat):Int):=by rw[wrap_i64 (by omega) (by omega)];omega
  have hcl1:(m.take i).countP Q≤62184:=Nat.le_trans (List.countP_le_length) (by rw[List.length_take];omega)
  have next:∀c:Int,c=a.1+(if Q x=true then 1 else 0)→RoundAt (fun a:Int×Int=>∃i:Nat,a.2=(i:Int)∧i≤m.length∧a.1=(((m.take i).countP Q:Nat):Int)) (fun a=>m.length - a.2.toNat) (Sum.elim (fun _:Unit=>False) fun t:Int=>t=((addrR (mkA f leaf up near cl) nw).length:Int)) a (.inl (c,IntKind.wrap .i64 (a.2+(1:Int)))):=fun c hc=>by
   refine⟨⟨i+1,hinc,by omega,?_⟩,?_⟩
   ·show c=_;rw[hc,h3,htk,List.countP_append,List.countP_cons,List.countP_nil];by_cases hqx:Q x=true
    ·rw[if_pos hqx,if_pos hqx];omega
    ·rw[if_neg hqx,if_neg hqx];omega
   ·show m.length - (IntKind.wrap .i64 (a.2+(1:Int))).toNat<m.length - a.2.toNat;rw[hinc,h1];simp only[Int.toNat_natCast];omega
  obtain⟨cl',ct,hatt,hci,-⟩:=(hmo x hxm).att;have hsl:=sortU_len cl';have hc20:=hci.len;refine .skip (.op x hx1 (.skip (.call _ (contains_at n hn (l:=l) (x:=x) (by omega) (by rw[hatt];show(sortU cl').length≤_;omega) (by rw[hatt];simp[atR]) (by rw[hatt];simp[atR]) fun y hy e=>uniq_N hm.2 (hlm y hy) hxm e) fun r61 h61=>.br (fun h=>.skip (.done rfl (next _ ?_))) fun h=>?_)))
  ·rw[if_neg (by rw[(hin x hxm).1 (h61.1 h)];simp)];omega
  have hqx:Q x=true:=by
   cases hqq:Q x with
   |true=>rfl
   |false=>rw[h61.2 ((hin x hxm).2 hqq)]at h;cases h
  have hxa:=hnewR x hxm hqx;obtain⟨k1,-,k3⟩:=mem_addr _ hxa;obtain⟨f1,f2,f3,f4⟩:=hfact x hxa;have k3:x.N.MAC=mM x5:=by rw[k3,← hnw]
  refine .skip (.call _ f4 fun r63 h63=>.skip (.br (fun h=>(by rw[k1]at h;simp at h)) fun _=>.skip (.br (fun h=>(by rw[k3]at h;simp at h)) fun _=>.skip (.op _ hb (.skip (.br (fun h=>(by rw[f1]at h;simp at h)) fun _=>?_))))))
  refine .skip (.call _ (resi2_at n (by omega) hv hsg.1 hsg.2) fun(es:V10 Int) hes=>.skip (.br (fun h=>(by rw[f2,← hes]at h;simp at h)) fun _=>?_))
  refine .skip (.br (fun h=>(by rw[h63.2]at h;simp at h)) fun _=>.skip (.br (fun h=>(by rw[h63.1]at h;simp at h)) fun _=>.skip (.br (fun hh=>.skip (.br (fun h=>(by rw[f3 hh]at h;simp at h)) fun _=>.skip (.done rfl (next _ ?_)))) fun _=>.skip (.done rfl (next _ ?_)))))
  ·rw[if_pos hqx,wrap_i64 (by omega) (by omega)]
  ·rw[if_pos hqx,wrap_i64 (by omega) (by omega)]
 cases t with
 |inl t=>exact ht.elim
 |inr t=>
 replace ht:t=((addrR (mkA f leaf up near cl) nw).length:Int):=ht
 have e2:IntKind.wrap .i64 (((l.length:Nat):Int)+(2:Int))=(l.length:Int)+2:=wrap_i64 (by omega) (by omega)
 have e1:IntKind.wrap .i64 (((l.length:Nat):Int)+(1:Int))=(l.length:Int)+1:=wrap_i64 (by omega) (by omega)
 refine .skip (.br (fun hh=>.skip (.op _ hb (.skip (.br (fun hg=>?_) fun hg=>?_)))) fun hh=>?_)
 ·have hg:(bdD f bd).Gateway≠0:=by simpa using hg
  rw[if_pos ⟨hh,hg⟩]at hal;refine .skip (.br (fun _=>.skip (.op () rfl (.skip (.op () rfl (.skip (.done rfl ?_)))))) fun h=>(by rw[ht,hal]at h;simp at h))
  rw[e2,hlens,hal];simp
 ·have hg:(bdD f bd).Gateway=0:=by simpa using hg
  rw[if_neg (fun h=>h.2 hg)]at hal
  refine .skip (.br (fun _=>.skip (.op () rfl (.skip (.op () rfl (.skip (.done rfl ?_)))))) fun h=>(by rw[ht,hal]at h;simp at h))
  rw[e1,hlens,hal];simp
 ·rw[if_neg (fun h=>by rw[hh]at h;cases h.1)]at hal
  refine .skip (.br (fun _=>.skip (.op () rfl (.skip (.op () rfl (.skip (.done rfl ?_)))))) fun h=>(by rw[ht,hal]at h;simp at h))
  rw[e1,hlens,hal];simp
end
theorem entry_at(n:Nat)(hn:100000≤n)(nums:List Int)(a b c x5 x6:Int)(x7:Bool)(x8:Int)(near:List Near)(hm:0≤x5∧x5<18446744073709551616)(hip:0≤x6∧x6<4294967296)(hq:0≤x8∧x8<4294967296)(hnr:∀x∈near,inW x.IP):
 At (c_law32_OriginEntry.S n (nums,a,b,c,x5,x6,x7,x8,near)) (fun r:Bool=>r=true):=by
 refine(?_ :AtG n (g_law32_OriginEntry nums a b c x5 x6 x7 x8 near) _);unfold g_law32_OriginEntry;refine .skip (.call _ (lives_at n (by omega)) fun r7 h7=>.skip (.br (fun h=>(by rw[h7]at h;cases h)) fun _=>?_))
 refine .skip (.call _ (light_at n nums [] near []) fun r9 h9=>.skip (.br (fun h=>.skip (.done rfl rfl)) fun h=>?_))
 obtain⟨hne,-,-⟩:=h9 (nbF h);refine .skip (.call _ (fab_at n (by omega) nums) fun(f:Fabric) hv=>?_)
 have hS:=hv.segments;refine .skip (.op () rfl (.call _ (pick_at n a _ (by omega) (by omega)) fun(sg:Int) hsg=>?_))
 have hsm:at? f.Segments sg=some (sgD f sg)∧sgD f sg∈f.Segments:=at_inD _ hsg.1 hsg.2;obtain⟨⟨l1,l2,-⟩,b1,b2,-⟩:=hv.seg _ hsm.2;refine .skip (.op _ hsm.1 (.skip (.op () rfl (.call _ (pick_at n b _ (by omega) (by omega)) fun(bi:Int) hbi=>?_))))
 obtain⟨bd,hb1,hb2⟩:=at_in (sgD f sg).BDs bi hbi.1 hbi.2;refine .op bd hb1 (.skip (.op () rfl (.call _ (pick_at n c _ (by omega) (by omega)) fun(li:Int) hli=>?_)))
 obtain⟨leaf,hl1,hl2⟩:=at_in (sgD f sg).Leaves li hli.1 hli.2;refine .op leaf hl1 (.skip (.br (fun _=>.skip (.done rfl rfl)) fun hm0=>?_))
 have hm0:mM x5≠0:=by simpa using hm0
 refine .skip (.br (fun hh=>.skip ?_) fun hh=>.skip ?_)
 ·have hh:=nbT hh;refine .loop (fun k:Int=>IdxI near (fun p2 (_:Unit)=>∀y∈p2,y.MAC≠mM x5) (k,())) (fun k=>near.length - k.toNat) (Sum.elim (fun _:Unit=>True) fun _=>∀y∈near,y.MAC≠mM x5) rfl (IdxI.start (by simp)) (by simp;omega) (fun k hk=>?_) (fun t ht=>?_)
  ·refine .skip (.op () rfl (.skip (.br (fun h=>?_) fun h=>.skip (.done rfl (hk.fin h)))))
   obtain⟨y,p2,k1,k2,k3,-,k4⟩:=hk.get h;refine .skip (.op y k1 (.skip (.br (fun _=>.skip (.done rfl trivial)) fun he=>.skip (.done rfl (k4 (by omega) () fun z hz=>?_)))))
   rcases List.mem_append.1 hz with hz |hz
   ·exact k3 z hz
   ·simp only[List.mem_singleton]at hz;subst hz;simpa using he
  ·cases t with
   |inl t=>exact .done rfl rfl
   |inr t=>exact enT_at (ip:=0) hv hsg hb2 hl2 hm0 inW0 (fun _=>rfl) hq hne hnr ht n hn
 ·have hh:=nbF hh;refine .loop (fun k:Int=>IdxI near (fun p2 (_:Unit)=>∀y∈p2,y.MAC≠mM x5) (k,())) (fun k=>near.length - k.toNat) (Sum.elim (fun _:Unit=>True) fun _=>∀y∈near,y.MAC≠mM x5) rfl (IdxI.start (by simp)) (by simp;omega) (fun k hk=>?_) (fun t ht=>?_)
  ·refine .skip (.op () rfl (.skip (.br (fun h=>?_) fun h=>.skip (.done rfl (hk.fin h)))))
   obtain⟨y,p2,k1,k2,k3,-,k4⟩:=hk.get h;refine .skip (.op y k1 (.skip (.br (fun _=>.skip (.done rfl trivial)) fun he=>.skip (.done rfl (k4 (by omega) () fun z hz=>?_)))))
   rcases List.mem_append.1 hz with hz |hz
   ·exact k3 z hz
   ·simp only[List.mem_singleton]at hz;subst hz;simpa using he
  ·cases t with
   |inl t=>exact .done rfl rfl
   |inr t=>exact enT_at (ip:=x6) hv hsg hb2 hl2 hm0 hip (fun h=>by rw[hh]at h;cases h) hq hne hnr ht n hn
end Go.L
