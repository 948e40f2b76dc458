/- The law of the chapter's example of routing between bridge domains. No conditions. -/
import Derived.Test.YtiohninblcifpaaGreatDoorPl
import Derived.Test.YtiohninblcifpaaGreatDoorWn
set_option linter.unusedSimpArgs false
set_option linter.unusedVariables false
set_option maxRecDepth 100000
namespace Go.L
open Go.AM
def fA:aB:=mq [⟨100,1⟩] [] 1 0
def fB:aB:=mq [⟨100,1⟩] [] 1 1
def fC:aB:=mq [⟨100,1⟩,⟨101,9⟩] [⟨0,1,⟨167772160,16⟩⟩] 1 0
def fD:aB:=mq [⟨100,1⟩] [] (-1) 0
def cN:List (V8 Int):=[⟨0,2,253,232,0,0,0,2⟩,⟨0,2,253,232,0,0,0,1⟩,⟨6,3,2,0,0,0,0,1⟩]
def rA:bL:=yR ⟨2,1,n10,0,2199023299073,167772165,true,⟨0,0⟩,0,10,100⟩ 184483842 cN
def rB:bL:=yR ⟨2,1,⟨3,0,0,0,0,0,0,0,0,2⟩,0,2199023299073,167772165,true,⟨0,0⟩,0,10,100⟩ 184483842 cN
def rF:bL:=yR ⟨5,2,n10,0,0,0,false,⟨167837696,16⟩,0,100,0⟩ 184483842 cN
def rG:bL:=yR ⟨5,2,n10,0,0,0,false,⟨167772160,24⟩,0,100,0⟩ 184483842 cN
def jq:au:=⟨0,⟨167772160,24⟩,0,0,0,0,0⟩
def tI:au:=⟨0,⟨167772165,32⟩,0,0,0,2199023299073,0⟩
def oF(t:Int):au:=⟨t,⟨167772165,32⟩,-1,184483842,100,0,2199023255553⟩
def y4:au:=⟨0,⟨167837696,16⟩,-1,184483842,100,0,2199023255553⟩
def B7:au:=⟨1,⟨167772160,24⟩,0,0,0,0,0⟩
theorem Lp:(match(dh.S 5000 cN:Option (List Int))with |some q=>q.length |none=>21)=2:=by kernel_rfl
theorem MH:At (dh.S 5000 cN) (fun(q:List Int)=>q.length≤20):=by
 have h:=Lp
 revert h
 generalize (dh.S 5000 cN:Option (List Int))=o;intro h;cases o with
 |none=>cases h
 |some q=>exact⟨q,rfl,by simp only at h;omega⟩
theorem Ka:((dg.S 5000 fA).map fun(r:Int×ByteArray×Int)=>r.1)=some 0:=by kernel_rfl
theorem MI:((dg.S 5000 fB).map fun(r:Int×ByteArray×Int)=>r.1)=some 0:=by kernel_rfl
theorem L3:((dg.S 5000 fC).map fun(r:Int×ByteArray×Int)=>r.1)=some 0:=by kernel_rfl
theorem MJ:((dg.S 5000 fD).map fun(r:Int×ByteArray×Int)=>r.1 != 0)=some true:=by kernel_rfl
theorem Mo(t:List aF)(k:List fH)(sp r:Int)(ht:t.length≤10):BQ 5000 (mq t k sp r):=by
 refine⟨by show 2<100000;omega,by show 2<5000;omega,fun s hs=>?_,by show 2<100000;omega,by show 2<5000;omega,by show t.length<100000;omega,by show t.length<5000;omega⟩
 have hs:s∈[(Go.L.ew.mk [(0:Int)] [(0:Int),(1:Int)]),(Go.L.ew.mk [(0:Int),(1:Int)] [(0:Int)])]:=hs;simp only[List.mem_cons,List.not_mem_nil,or_false]at hs;rcases hs with rfl |rfl
 ·refine⟨by decide,by decide,by decide,by decide,fun b hb=>?_⟩
  simp only[List.mem_cons,List.not_mem_nil,or_false]at hb;show 0≤b∧b<2;omega
 ·refine⟨by decide,by decide,by decide,by decide,fun b hb=>?_⟩
  simp only[List.mem_cons,List.not_mem_nil,or_false]at hb;show 0≤b∧b<2;omega
theorem zD(t:List aF)(k:List fH)(r:Int)(ht:t.length≤10)(hk:k.length≤1)(hck:((dg.S 5000 (mq t k 1 r)).map fun(r:Int×ByteArray×Int)=>r.1)=some 0)(up:List Bool)(rs:List bL)(hrs:rs.length≤2)(hcm:∀x∈rs,x.A.dF=cN)(l res:List au)
 (hl:oE (Kc 5000 (mq t k 1 r) 0).aN k (kU (qq (mq t k 1 r) 0 up (Kc 5000 (mq t k 1 r) 0) rs))=l) (hp:l.Perm res) (hn:(l.map gQ).Nodup) (hs:res.Pairwise (fun a b=>uI a b)):
 At (lN 5000 (mq t k 1 r,0,up,rs)) (fun q:List au=>q=res):=by
 have hc:At (dg.S 5000 (mq t k 1 r)) (fun(r:Int×ByteArray×Int)=>r.1=0):=by
  obtain⟨r,h1,h2⟩:=Option.map_eq_some_iff.1 hck;exact⟨r,h1,h2⟩
 have hbd:(mq t k 1 r).aQ.length=2:=rfl;have H:=IG 5000 (mq t k 1 r) 0 up rs 20 (by omega) hc (by omega) (by show(0:Int)<2;omega) (Mo t k 1 r ht) (by omega) (by omega) (fun x h=>by rw[hcm x h];exact⟨by decide,by decide⟩) (fun x h=>by rw[hcm x h];exact MH) (by omega) (by omega) (by show k.length<100000;omega) (by show k.length<5000;omega) (by rw[hbd];omega) (by rw[hbd];omega) (by
  rw[hbd];show(2+rs.length*20+1)*(k.length+2)<1000000000;have:(2+rs.length*20+1)*(k.length+2)≤43*3:=Nat.mul_le_mul (by omega) (by omega)
  omega)
 refine⟨_,if_pos H,?_⟩;unfold zB;rw[show(mq t k 1 r).Leaks=k from rfl,hl,xA hp hn,Ao hs]
theorem IJ(f:aB)(leaf:Int)(h:BU 5000 f leaf):At (lN 5000 (f,leaf,[],[])) (fun q:List au=>q=[]):=by
 refine⟨[],?_,rfl⟩;unfold lN;rw[if_neg fun H=>?_,if_pos h]
 obtain⟨r,h1,h2⟩:=h;obtain⟨r',h3,h4⟩:=H.ck;have:=H.h0;have:=H.h1;rw[h1]at h3;cases h3;rcases h2 with h2 |h2 |h2
 ·exact h2 h4
 ·simp only at*;omega
 ·simp only at*;omega
theorem MK:oE (Kc 5000 fA 0).aN [] (kU (qq fA 0 [] (Kc 5000 fA 0) []))=[jq]:=by kernel_rfl
theorem ML:oE (Kc 5000 fB 0).aN [] (kU (qq fB 0 [] (Kc 5000 fB 0) [rA]))=[jq,tI]:=by kernel_rfl
theorem MM:oE (Kc 5000 fA 0).aN [] (kU (qq fA 0 [true,true] (Kc 5000 fA 0) [rB]))=[jq,tI]:=by kernel_rfl
theorem MN:oE (Kc 5000 fA 0).aN [] (kU (qq fA 0 [true,false] (Kc 5000 fA 0) [rB]))=[jq,oF 0]:=by kernel_rfl
theorem MO:oE (Kc 5000 fA 0).aN [] (kU (qq fA 0 [] (Kc 5000 fA 0) [rF,rG]))=[jq,y4]:=by kernel_rfl
theorem MP:oE (Kc 5000 fC 0).aN [⟨0,1,⟨167772160,16⟩⟩] (kU (qq fC 0 [] (Kc 5000 fC 0) [rF,rB]))=[jq,y4,oF 0,B7,oF 1]:=by kernel_rfl
theorem LP:At (lN 5000 (fA,0,[],[])) (fun q:List au=>q=[jq]):=
 zD _ _ _ (by decide) (by decide) Ka [] [] (by decide) (by simp) _ _ MK (List.Perm.refl _) (by decide) (List.pairwise_singleton _ _)
theorem LQ:At (lN 5000 (fB,0,[],[rA])) (fun q:List au=>q=[jq,tI]):=
 zD _ _ _ (by decide) (by decide) MI [] [rA] (by decide) (by simp[rA]) _ _ ML (List.Perm.refl _) (by decide) (by simp only[List.pairwise_cons,List.forall_mem_cons];exact⟨⟨by show cw _ _<0;decide,by simp⟩,by simp⟩)
theorem LR:At (lN 5000 (fA,0,[true,true],[rB])) (fun q:List au=>q=[jq,tI]):=
 zD _ _ _ (by decide) (by decide) Ka [true,true] [rB] (by decide) (by simp[rB]) _ _ MM (List.Perm.refl _) (by decide) (by simp only[List.pairwise_cons,List.forall_mem_cons];exact⟨⟨by show cw _ _<0;decide,by simp⟩,by simp⟩)
theorem LS:At (lN 5000 (fA,0,[true,false],[rB])) (fun q:List au=>q=[jq,oF 0]):=
 zD _ _ _ (by decide) (by decide) Ka [true,false] [rB] (by decide) (by simp[rB]) _ _ MN (List.Perm.refl _) (by decide) (by simp only[List.pairwise_cons,List.forall_mem_cons];exact⟨⟨by show cw _ _<0;decide,by simp⟩,by simp⟩)
theorem LU:At (lN 5000 (fA,0,[],[rF,rG])) (fun q:List au=>q=[jq,y4]):=
 zD _ _ _ (by decide) (by decide) Ka [] [rF,rG] (by decide) (by simp[rF,rG]) _ _ MO (List.Perm.refl _) (by decide) (by simp only[List.pairwise_cons,List.forall_mem_cons];exact⟨⟨by show cw _ _<0;decide,by simp⟩,by simp⟩)
theorem LV:At (lN 5000 (fC,0,[],[rF,rB])) (fun q:List au=>q=[jq,oF 0,y4,B7,oF 1]):=
 zD _ _ _ (by decide) (by decide) L3 [] [rF,rB] (by decide) (by simp[rF,rB]) _ _ MP (List.Perm.cons _ (List.Perm.swap _ _ _)) (by decide) (by
  simp only[List.pairwise_cons,List.forall_mem_cons];exact⟨⟨by show cw _ _<0;decide,by show cw _ _<0;decide,by show cw _ _<0;decide,by show cw _ _<0;decide,by simp⟩,⟨by show cw _ _<0;decide,by show cw _ _<0;decide,by show cw _ _<0;decide,by simp⟩,⟨by show cw _ _<0;decide,by show cw _ _<0;decide,by simp⟩,⟨by show cw _ _<0;decide,by simp⟩,by simp⟩)
theorem KH:At (lN 5000 (fD,0,[],[])) (fun q:List au=>q=[]):=IJ _ _ (by
 obtain⟨r,h1,h2⟩:=Option.map_eq_some_iff.1 MJ;exact⟨r,h1,.inl (by simpa using h2)⟩)
theorem JM:At (lN 5000 (fC,2,[],[])) (fun q:List au=>q=[]):=IJ _ _ (by
 obtain⟨r,h1,h2⟩:=Option.map_eq_some_iff.1 L3;exact⟨r,h1,.inr (.inr (by decide))⟩)
theorem Hz:At (sM.S 5000 ()) (fun r:Bool=>r=true):=by
 refine(?_ :cH 5000 mX _);unfold mX;refine .skip (.call _ JL fun r1 h1=>.skip (.br (fun h=>(by rw[h1]at h;cases h)) fun _=>?_))
 refine .skip (.inl (.skip (.tidy rfl (.inl (.skip (.inl (.skip ?_)))))));refine .call (fun r:V8 Int×Int=>r=((⟨6,3,2,0,0,0,0,1⟩:V8 Int),(0:Int))) ⟨_,by kernel_rfl,rfl⟩ fun r3 h3=>?_
 subst h3;refine .skip (.call (fun r:Int=>r=184483842) ⟨_,by kernel_rfl,rfl⟩ fun r4 h4=>?_)
 subst h4;refine .call (fun r:V8 Int=>r=(⟨0,2,253,232,0,0,0,2⟩:V8 Int)) ⟨_,by kernel_rfl,rfl⟩ fun r5 h5=>?_
 subst h5;refine .call (fun r:V8 Int=>r=(⟨0,2,253,232,0,0,0,1⟩:V8 Int)) ⟨_,by kernel_rfl,rfl⟩ fun r6 h6=>?_
 subst h6;refine .skip (.tidy rfl (.inl (.skip ?_)));refine .bz (fun r:List au=>r=[jq]) LP fun r7 h7=>.skip (.bz (fun r:List au=>r=[jq,tI]) LQ fun r8 h8=>?_)
 subst h7 h8;refine .skip (.call (fun r:bE Int=>r=(⟨3,0,0,0,0,0,0,0,0,2⟩:bE Int)) ⟨_,by kernel_rfl,rfl⟩ fun r9 h9=>?_)
 subst h9;refine .skip (.bz (fun r:List au=>r=[jq,tI]) LR fun r10 h10=>.skip (.bz (fun r:List au=>r=[jq,oF 0]) LS fun r11 h11=>.skip (.bz (fun r:List au=>r=[jq,y4]) LU fun r12 h12=>.skip (.bz (fun r:List au=>r=[jq,oF 0,y4,B7,oF 1]) LV fun r13 h13=>?_))))
 subst h10 h11 h12 h13;refine .skip (.tidy (by kernel_rfl) (.skip ?_))
 refine .call (fun r:au×Bool=>r=(tI,true)) ⟨_,by kernel_rfl,rfl⟩ fun r14 h14=>.skip (.call (fun r:au×Bool=>r=(jq,true)) ⟨_,by kernel_rfl,rfl⟩ fun r15 h15=>.skip (.call (fun r:au×Bool=>r=((⟨0,⟨0,0⟩,0,0,0,0,0⟩:au),false)) ⟨_,by kernel_rfl,rfl⟩ fun r16 h16=>.skip (.call (fun r:au×Bool=>r=((⟨0,⟨0,0⟩,0,0,0,0,0⟩:au),false)) ⟨_,by kernel_rfl,rfl⟩ fun r17 h17=>?_)))
 subst h14 h15;refine .skip (.inl (.skip (.tidy rfl (.inl (.skip ?_)))));refine .br (fun h=>absurd h (by decide)) fun _=>.skip (.op () (by kernel_rfl) (.skip (.op y4 (by kernel_rfl) (.skip (.br (fun h=>absurd h (by decide)) fun _=>.skip (.op () (by kernel_rfl) (.skip (.op y4 (by kernel_rfl) (.skip (.br (fun h=>absurd h (by decide)) fun _=>?_))))))))))
 refine .skip (.br (fun h=>absurd h (by decide)) fun _=>.skip (.op () (by kernel_rfl) (.skip (.op B7 (by kernel_rfl) (.skip (.br (fun h=>absurd h (by decide)) fun _=>.skip (.op () (by kernel_rfl) (.skip (.op B7 (by kernel_rfl) (.skip (.br (fun h=>absurd h (by decide)) fun _=>?_)))))))))))
 refine .skip (.op () (by kernel_rfl) (.skip (.op (oF 1) (by kernel_rfl) (.skip (.br (fun h=>absurd h (by decide)) fun _=>.skip (.op () (by kernel_rfl) (.skip (.op (oF 1) (by kernel_rfl) (.skip (.br (fun h=>absurd h (by decide)) fun _=>?_))))))))))
 refine .skip (.br (fun h=>absurd h (by decide)) fun _=>.skip (.op () (by kernel_rfl) (.skip (.op (oF 0) (by kernel_rfl) (.skip (.br (fun h=>absurd h (by decide)) fun _=>?_))))))
 refine .skip (.tidy (by kernel_rfl) ?_)
 refine .call (fun(b:Bool)=>b=true) (vk 5000 [jq] (by decide) (by decide)) fun r35 h35=>.skip (.br (fun _=>?_) fun h=>(by rw[h35]at h;cases h))
 refine .skip (.tidy (by kernel_rfl) ?_)
 refine .call (fun(b:Bool)=>b=true) (vk 5000 [jq,tI] (by decide) (by decide)) fun r36 h36=>.skip (.br (fun _=>?_) fun h=>(by rw[h36]at h;cases h))
 refine .skip (.call (fun(b:Bool)=>b=true) (vk 5000 [jq,tI] (by decide) (by decide)) fun r37 h37=>.skip (.br (fun _=>?_) fun h=>(by rw[h37]at h;cases h)))
 refine .skip (.br (fun _=>.skip (.br (fun _=>.skip (.br (fun _=>.skip (.br (fun _=>?_) fun h=>absurd h (by decide))) fun h=>absurd h (by decide))) fun h=>absurd h (by decide))) fun h=>absurd h (by decide))
 refine .skip (.br (fun _=>.skip (.br (fun _=>?_) fun h=>(by rw[h17]at h;cases h))) fun h=>(by rw[h16]at h;cases h))
 refine .skip (.bz (fun r:List au=>r=[]) KH fun r38 h38=>?_)
 subst h38;refine .skip (.br (fun _=>?_) fun h=>absurd h (by decide))
 refine .skip (.bz (fun r:List au=>r=[]) JM fun r39 h39=>.skip (.done rfl ?_))
 subst h39;rfl
end Go.L
