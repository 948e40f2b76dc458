/- The law of the reference on the chapter's origins. No conditions. -/
import Derived.Test.YtdbkafoghoenoaaGreatDoorPo
import Derived.Test.YtdbkafoghoenoaaGreatDoorWv
set_option linter.unusedSectionVars false
set_option linter.unusedSimpArgs false
set_option linter.unusedVariables false
set_option maxRecDepth 100000
namespace Go.L
open Go.AM Go.Sort
def chT:Fabric:=Fabric.mk 2 1 [(Link.mk 0 2 1),(Link.mk 1 2 1)] [(Tenant.mk 100 1)] [(BD.mk 0 10 2 (Prefix.mk 167772160 24) 167772161),(BD.mk 0 20 3 (Prefix.mk 0 0) 0)] [(Segment.mk [0] [0,1]),(Segment.mk [0,1] [0])] [] [] 0 0 0 false true (Timers.mk 3 9 100 20 5 50)
theorem chT_gd:Gd chT where
 leaves:=by decide
 elect:=by decide
 segs:=by decide
 bds:=by decide
 seg:=by intro s hs;simp only[chT,List.mem_cons,List.not_mem_nil,or_false]at hs;rcases hs with rfl |rfl<;>exact⟨by decide,by decide,by intro b hb;simp at hb;simp only[chT];rcases hb with rfl |rfl<;>decide⟩
 bd:=by intro s hs;simp only[chT,List.mem_cons,List.not_mem_nil,or_false]at hs;rcases hs with rfl |rfl<;>(unfold inW;simp[chT])
 ten:=by intro s hs;simp only[chT,List.mem_cons,List.not_mem_nil,or_false]at hs;subst hs;unfold inW;simp
theorem chT_check(n:Nat)(hn:5000≤n):At (c_tenant_Check.S n chT) (fun(r:Int×ByteArray×Int)=>r.1=0):=by
 refine(At.eq (r:=checkS chT) fun k=>tenant_Check n hn chT ?_ k).mono fun r hr=>?_
 ·constructor<;>simp[chT]
 ·rw[hr];kernel_rfl
def zF:Fabric:=Fabric.mk (0:Int) (0:Int) [] [] [] [] [] [] (0:Int) (0:Int) (0:Int) false false (Timers.mk (0:Int) (0:Int) (0:Int) (0:Int) (0:Int) (0:Int))
theorem zF_check(n:Nat)(hn:5000≤n):At (c_tenant_Check.S n zF) (fun(r:Int×ByteArray×Int)=>(r.1 != 0)=true):=by
 refine(At.eq (r:=checkS zF) fun k=>tenant_Check n hn zF ?_ k).mono fun r hr=>?_
 ·constructor<;>simp[zF]
 ·rw[hr];kernel_rfl
theorem Routes_none(n:Nat){f:Fabric}{self:Int}{up:List Bool}{near:List Near}{claims:List Claim}(hc:At (c_tenant_Check.S n f) (fun r:Int×ByteArray×Int=>(r.1 != 0)=true)):At (c_origin_Routes.S n (f,self,up,near,claims)) (fun r:List Route=>r=[]):=by
 refine(?_ :AtG n (g_origin_Routes f self up near claims) _);exact .skip (.call _ hc fun r6 h6=>.skip (.br (fun _=>.skip (.done rfl rfl)) fun h=>(by rw[h6]at h;cases h)))
theorem Routes_out(n:Nat){f:Fabric}{self:Int}{up:List Bool}{near:List Near}{claims:List Claim}(hc:At (c_tenant_Check.S n f) (fun r:Int×ByteArray×Int=>r.1=0))(h:f.Leaves≤self∨up.length≠f.Segments.length):At (c_origin_Routes.S n (f,self,up,near,claims)) (fun r:List Route=>r=[]):=by
 refine(?_ :AtG n (g_origin_Routes f self up near claims) _);refine .skip (.call _ hc fun r6 h6=>.skip (.br (fun h=>(by rw[h6]at h;cases h)) fun _=>.skip (.br (fun _=>.skip (.done rfl rfl)) fun _=>.skip (.br (fun _=>.skip (.done rfl rfl)) fun h1=>.skip (.op () rfl (.skip (.op () rfl (.skip (.br (fun _=>.skip (.done rfl rfl)) fun h2=>?_)))))))))
 simp at h1 h2;omega
theorem sameU_self(n:Nat)(l:List Int)(hn:l.length<n)(hl:l.length<100000):At (c_kit_Same_uint32.S n (l,l)) (fun r:Bool=>r=true):=by
 refine(?_ :AtG n (g_kit_Same_uint32 l l) _);unfold g_kit_Same_uint32;refine .skip (.op () rfl (.skip (.op () rfl (.skip (.br (fun h=>(by simp at h)) fun _=>.skip ?_)))))
 refine .loop (fun a:Int=>IdxI l (fun pre (_:Unit)=>True) (a,())) (fun a=>l.length - a.toNat) (Sum.elim (fun _:Unit=>False) fun _=>True) rfl (IdxI.start trivial) (by simp;omega) (fun a ha=>?_) (fun t ht=>?_)
 ·refine .skip (.op () rfl (.skip (.br (fun h=>?_) fun h=>.skip (.done rfl (ha.fin h)))))
  obtain⟨x,pre,h1,h2,h3,-,h4⟩:=ha.get h;refine .skip (.op x h1 (.skip (.op x h1 (.skip (.br (fun h=>(by simp at h)) fun _=>.skip (.done rfl (h4 hl () trivial)))))))
 ·cases t with
  |inl t=>exact ht.elim
  |inr t=>exact .skip (.done rfl rfl)
def nrA:List Near:=[(Near.mk (1:Int) (0:Int) (2199023299073:Int) (0:Int) false (0:Int))]
def nrB:List Near:=[(Near.mk (1:Int) (1:Int) (5:Int) (0:Int) false (0:Int)),(Near.mk (0:Int) (0:Int) (0:Int) (0:Int) false (0:Int)),(Near.mk (0:Int) (0:Int) (281474976710655:Int) (0:Int) false (0:Int)),(Near.mk (0:Int) (2:Int) (5:Int) (0:Int) false (0:Int)),(Near.mk (0:Int) (0:Int) (5:Int) (1:Int) false (0:Int)),(Near.mk (0:Int) (0:Int) (281474976710656:Int) (0:Int) false (0:Int))]
def nrC:Near:=Near.mk (0:Int) (1:Int) (5:Int) (167772169:Int) true (0:Int)
def clC:List Claim:=[(Claim.mk (0:Int) (5:Int) (3:Int) false)]
def oC:origin_origin:=mkA chF 1 [true,true] [nrC] clC
def coC:List (V8 Int):=[taC 1,taC 2,enC,madeS 6 0 3,madeS 6 3 (rmV 1)]
def tunT(x:Route):Bool:=(x.A.Tunnel.Kind==(3:Int))&&((x.A.Tunnel.Label==(20:Int))&&((x.A.Tunnel.Root==(0:Int))&&((x.A.Tunnel.Group==(4009754626:Int))&&true)))
theorem vNmA:(isortR (allO (mkA chF 0 [true,true] nrA []))).map (fun r=>r.map (·.N.Kind))=some [1,1,2,3,3,4,5]:=by kernel_rfl
theorem vNmB:(isortR (allO (mkA chF 0 [true,true] nrB []))).map (fun r=>r.map (·.N.Kind))=some [1,1,3,3,4,5]:=by kernel_rfl
theorem vNmC:(isortR (allO oC)).map (fun r=>(r.length,(at? r 2).map (·.N.HasIP),at? r 3))=some (7,some false,some (macI oC nrC)):=by kernel_rfl
theorem vNmT:(isortR (allO (mkA chT 0 [true,true] [] []))).map (fun r=>(r.length,r.any tunT))=some (6,true):=by kernel_rfl
theorem coC_sort:(macI oC nrC).A.Comms=coC:=by
 show sortU (macC oC nrC++[taC (tnB oC nrC).Target,madeS 6 3 oC.router])=coC;have e:macC oC nrC++[taC (tnB oC nrC).Target,madeS 6 3 oC.router]=[enC,taC 2,madeS 6 0 3,taC 1,madeS 6 3 (rmV 1)]:=by kernel_rfl
 rw[e];refine(sortU_ext _ ?_ ?_ ?_).symm
 ·intro x hx;simp only[List.mem_cons,List.not_mem_nil,or_false]at hx;rcases hx with rfl |rfl |rfl |rfl |rfl<;>(unfold okC;decide)
 ·show List.Pairwise _ [taC 1,taC 2,enC,madeS 6 0 3,madeS 6 3 (rmV 1)];simp only[List.pairwise_cons,List.forall_mem_cons];refine⟨⟨by decide,by decide,by decide,by decide,by simp⟩,⟨by decide,by decide,by decide,by simp⟩,⟨by decide,by decide,by simp⟩,⟨by decide,by simp⟩,by simp,List.Pairwise.nil⟩
 ·intro x;simp only[coC,List.mem_cons,List.not_mem_nil,or_false];constructor<;>(rintro(rfl |rfl |rfl |rfl |rfl)<;>simp)
theorem mobC:At (c_ref03_MobilityOf.S 5000 coC) (fun r:Bool×Int×Bool=>r=(false,3,true)):=⟨_,by kernel_rfl,rfl⟩
theorem rouC:At (c_ref03_RouterOf.S 5000 coC) (fun r:Int×Bool=>r=(2199023255553,true)):=⟨_,by kernel_rfl,rfl⟩
theorem tarC:At (c_ref03_Targets.S 5000 coC) (fun r:List Int=>r=[1,2]):=⟨_,by kernel_rfl,rfl⟩
theorem grp(x y:Int)(h:c_origin_Group.S 5000 x=some y):At (c_origin_Group.S 5000 x) (fun r:Int=>r=y):=⟨_,h,rfl⟩
theorem upOne{f:Fabric}{q:List Route→Prop}(h:At (c_origin_Routes.S 5000 (f,(0:Int),[true],[],[])) q):At (c_origin_Routes_u.S 5000 ([true],f,(0:Int),1,[],[])) q:=by
 have e:c_origin_Routes_u.S 5000 ([true],f,(0:Int),1,[],[])=c_origin_Routes.S 5000 (f,(0:Int),[true],[],[]):=by
  show(if(1:Nat)=[true].length then c_origin_Routes.S 5000 (f,(0:Int),[true],[],[])else none)=c_origin_Routes.S 5000 (f,(0:Int),[true],[],[])
  exact if_pos rfl
 obtain⟨r,h1,h2⟩:=h;exact⟨r,e.trans h1,h2⟩
theorem names_at:At (c_law32_OriginNames.S 5000 ()) (fun r:Bool=>r=true):=by
 have hn:5000≤5000:=Nat.le_refl _;obtain⟨q4,a4,b4⟩:=map_some vNmA;obtain⟨q5,a5,b5⟩:=map_some vNmB;obtain⟨q6,a6,b6⟩:=map_some vNmC;obtain⟨q15,a15,b15⟩:=map_some vNmT;have l4:q4.length=7:=by have:=congrArg List.length b4;simpa using this
 have l5:q5.length=6:=by have:=congrArg List.length b5;simpa using this
 obtain⟨l6,p6⟩:=Prod.mk.injEq _ _ _ _▸b6;obtain⟨m6,x6⟩:=Prod.mk.injEq _ _ _ _▸p6;obtain⟨y6,m6,n6⟩:=map_some m6;obtain⟨l15,t15⟩:=Prod.mk.injEq _ _ _ _▸b15;refine(?_ :AtG 5000 g_law32_OriginNames _);refine .skip (.call _ (lives_at 5000 hn) fun r1 h1=>.skip (.br (fun h=>(by rw[h1]at h;cases h)) fun _=>.skip (.call (fun f=>f=chF) ⟨_,rfl,rfl⟩ fun r3 h3=>?_)))
 subst h3;refine .skip (.tidy rfl (.skip (.tidy rfl (.skip (.callR (fun r=>r=q4) (Routes_at 5000 hn chF_gd (chF_check 5000 hn) (by decide) rfl (by simp) (by simp) (by simp) q4 a4) fun r4 h4=>?_)))))
 subst h4;refine .skip (.tidy rfl (.skip (.callR (fun r=>r=q5) (Routes_at 5000 hn chF_gd (chF_check 5000 hn) (by decide) rfl (by simp) (by simp) (by simp) q5 a5) fun r5 h5=>?_)))
 subst h5;refine .skip (.tidy rfl (.callR (fun r=>r=q6) (Routes_at 5000 hn chF_gd (chF_check 5000 hn) (by decide) rfl (by simp) (by simp) (by simp) q6 a6) fun r6 h6=>?_))
 subst h6;refine .skip (.op () rfl (.skip (.br (fun h=>(by rw[l6]at h;simp at h)) fun _=>.skip (.op _ x6 (.skip (.op _ m6 (.skip (.br (fun h=>?_) fun _=>?_))))))))
 ·rw[n6]at h;simp[macI,rtS,nrC]at h
 refine .skip (.op _ x6 (.skip ?_));rw[coC_sort];refine .call _ mobC fun r12 h12=>.skip (.op _ x6 (.skip ?_))
 rw[coC_sort];refine .call _ rouC fun r14 h14=>.skip (.callR (fun r=>r=q15) (Routes_at 5000 hn chT_gd (chT_check 5000 hn) (by decide) rfl (by simp) (by simp) (by simp) q15 a15) fun r15 h15=>?_)
 subst h15;refine .skip (.loop (fun a:Bool×Int=>IdxI r15 (fun pre b=>b=pre.any tunT) (a.2,a.1)) (fun a=>r15.length - a.2.toNat) (fun t:Bool=>t=r15.any tunT) rfl (IdxI.start rfl) (by simp;omega) (fun a ha=>?_) (fun(t:Bool) ht=>?_))
 ·refine .skip (.op () rfl (.skip (.br (fun h=>?_) fun h=>.skip (.done rfl (ha.fin h)))))
  obtain⟨x,pre,h1,h2,h3,-,h4⟩:=ha.get h;refine .skip (.br (fun hb=>.skip (.done rfl (h4 (by omega) true (by rw[List.any_append,← h3,hb];rfl)))) fun hb=>.skip (.op x h1 (.skip (.done rfl (h4 (by omega) _ ?_)))))
  rw[List.any_append,← h3,hb];simp[tunT]
 rw[t15]at ht;subst ht;refine .skip (.call (fun r=>r=[1,1,2,3,3,4,5]) ((kinds_at 5000 _ (by omega) (by omega)).mono fun r hr=>hr.trans b4) fun r22 h22=>?_)
 subst h22;refine .skip (.call _ (sameI_at 5000 _ (by simp) (by simp)) fun r23 h23=>.skip (.br (fun _=>?_) fun h=>(by rw[h23]at h;cases h)))
 refine .skip (.call (fun r=>r=[1,1,3,3,4,5]) ((kinds_at 5000 _ (by omega) (by omega)).mono fun r hr=>hr.trans b5) fun r24 h24=>?_)
 subst h24;refine .skip (.call _ (sameI_at 5000 _ (by simp) (by simp)) fun r25 h25=>.skip (.br (fun _=>?_) fun h=>(by rw[h25]at h;cases h)))
 subst h12 h14;refine .skip (.br (fun _=>.skip (.br (fun _=>.skip (.br (fun _=>.skip (.br (fun _=>?_) fun h=>(by cases h))) fun h=>(by cases h))) fun h=>(by cases h))) fun h=>(by cases h))
 refine .skip (.op _ x6 (.skip (.br (fun _=>.skip (.op _ x6 (.skip ?_))) fun h=>absurd h (by rw[show(macI oC nrC).N.Label2=100 by kernel_rfl];decide))))
 rw[coC_sort];refine .call _ tarC fun r28 h28=>?_
 subst h28;refine .skip (.call _ (sameU_self 5000 _ (by simp) (by simp)) fun r29 h29=>.skip (.br (fun _=>.skip (.br (fun _=>?_) fun h=>(by cases h))) fun h=>(by rw[h29]at h;cases h)))
 refine .skip (.callR (fun r:List Route=>r=[]) (Routes_out 5000 (chT_check 5000 hn) (Or.inl (by decide))) fun r30 h30=>?_)
 subst h30;refine .op () rfl (.skip (.call1 (fun r:List Route=>r=[]) (upOne (Routes_out 5000 (chT_check 5000 hn) (Or.inr (by decide)))) fun r31 h31=>?_))
 subst h31;refine .op () rfl (.skip (.callR (fun r:List Route=>r=[]) (Routes_none 5000 (zF_check 5000 hn)) fun r32 h32=>?_))
 subst h32;refine .op () rfl (.skip (.br (fun _=>?_) fun h=>absurd h (by decide)))
 refine .call _ (grp (0:Int) 4009754625 (by kernel_rfl)) fun r33 h33=>.skip (.br (fun _=>?_) fun h=>(by rw[h33]at h;cases h))
 refine .call _ (grp (31:Int) 4009754656 (by kernel_rfl)) fun r34 h34=>.skip (.br (fun _=>?_) fun h=>(by rw[h34]at h;cases h))
 refine .call _ (grp (32:Int) 0 (by kernel_rfl)) fun r35 h35=>.skip (.br (fun _=>?_) fun h=>(by rw[h35]at h;cases h))
 refine .call _ (grp (-(1:Int)) 0 (by kernel_rfl)) fun r36 h36=>.skip (.done rfl (by rw[h36];rfl))
end Go.L
