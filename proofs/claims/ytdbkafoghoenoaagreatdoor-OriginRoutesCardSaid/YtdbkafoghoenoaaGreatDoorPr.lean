/- Parts put together. No conditions. -/
import Derived.Test.YtdbkafoghoenoaaGreatDoorWs
import Derived.Test.YtdbkafoghoenoaaGreatDoorPa
import Derived.Test.YtdbkafoghoenoaaGreatDoorWl
set_option linter.unusedSimpArgs false
set_option linter.unusedVariables false
set_option maxRecDepth 100000
section
namespace Go.L
open Go.AM
theorem cmp_int(n:Nat)(a b:Int):At (c_cmp_Compare_int.S n (a,b)) (fun(r:Int)=>r=cmpI a b):=by
 refine(?_ :AtG n (g_cmp_Compare_int a b) _);unfold g_cmp_Compare_int;have e:∀x:Int,At (c_cmp_isNaN_int.S n x) (fun(r:Bool)=>r=false):=fun x=>⟨x != x,rfl,by simp⟩
 refine .skip (.call _ (e a) fun r3 h3=>.skip (.call _ (e b) fun r4 h4=>.skip (.br (fun h=>by rw[h3]at h;cases h) fun _=>.skip (.br (fun h=>by rw[h4]at h;cases h) fun _=>.skip (.br (fun h=>.skip (.done rfl ?_)) fun h=>.skip (.br (fun h2=>.skip (.done rfl ?_)) fun h2=>.skip (.done rfl ?_)))))))
 all_goals (simp only[decide_eq_true_eq,decide_eq_false_iff_not]at*;unfold cmpI)
 ·rw[if_pos h]
 ·rw[if_neg h,if_pos h2]
 ·rw[if_neg h,if_neg h2]
theorem cmp_IP(n:Nat)(a b:Int):At (c_cmp_Compare_IP.S n (a,b)) (fun(r:Int)=>r=cmpI a b):=by
 refine(?_ :AtG n (g_cmp_Compare_IP a b) _);unfold g_cmp_Compare_IP;have e:∀x:Int,At (c_cmp_isNaN_IP.S n x) (fun(r:Bool)=>r=false):=fun x=>⟨x != x,rfl,by simp⟩
 refine .skip (.call _ (e a) fun r3 h3=>.skip (.call _ (e b) fun r4 h4=>.skip (.br (fun h=>by rw[h3]at h;cases h) fun _=>.skip (.br (fun h=>by rw[h4]at h;cases h) fun _=>.skip (.br (fun h=>.skip (.done rfl ?_)) fun h=>.skip (.br (fun h2=>.skip (.done rfl ?_)) fun h2=>.skip (.done rfl ?_)))))))
 all_goals (simp only[decide_eq_true_eq,decide_eq_false_iff_not]at*;unfold cmpI)
 ·rw[if_pos h]
 ·rw[if_neg h,if_pos h2]
 ·rw[if_neg h,if_neg h2]
theorem lexOr_mid{x:Int}{post:List Int}(hx:x≠0):∀{pre:List Int},(∀y∈pre,y=0)→lexOr (pre++x::post)=x
 | [],_=>by simp[lexOr,hx]
 |y::pre,hp=>by
  simp only[List.cons_append,lexOr,hp y List.mem_cons_self,if_true];exact lexOr_mid hx fun z hz=>hp z (List.mem_cons_of_mem _ hz)
theorem lexOr_all:∀{l:List Int},(∀y∈l,y=0)→lexOr l=0
 | [],_=>rfl
 |y::l,h=>by
  simp only[lexOr,h y List.mem_cons_self,if_true];exact lexOr_all fun z hz=>h z (List.mem_cons_of_mem _ hz)
theorem or_at(n:Nat)(l:List Int)(hn:l.length<n)(hs:l.length<100000):At (c_cmp_Or_int.S n l) (fun(r:Int)=>r=lexOr l):=by
 refine(?_ :AtG n (g_cmp_Or_int l) _);unfold g_cmp_Or_int;refine .skip (.op () rfl (.skip (.loop (fun a:Int=>IdxI l (fun pre (_:Unit)=>∀y∈pre,y=0) (a,())) (fun a=>l.length - a.toNat) (Sum.elim (fun(t:Int)=>t=lexOr l) fun _=>∀y∈l,y=0) rfl (IdxI.start (by simp)) (by simpa using hn) (fun a ha=>?_) (fun t ht=>?_))))
 ·refine .skip (.br (fun h=>?_) fun h=>.skip (.done rfl (ha.fin h)))
  obtain⟨x,pre,h1,h2,h3,⟨_,post,hl⟩,h4⟩:=ha.get h;refine .skip (.op x h1 (.skip (.br (fun he=>.skip (.done rfl ?_)) fun he=>.skip (.done rfl ?_))))
  ·show x=lexOr l;rw[hl];exact(lexOr_mid (by simpa using he) h3).symm
  ·refine h4 hs () ?_;grind
 ·cases t with
  |inl t=>exact .done rfl ht
  |inr t=>exact .skip (.done rfl (lexOr_all ht).symm)
theorem cmp_uint32(n:Nat)(a b:Int):At (c_cmp_Compare_uint32.S n (a,b)) (fun(r:Int)=>r=cmpI a b):=by
 refine(?_ :AtG n (g_cmp_Compare_uint32 a b) _);unfold g_cmp_Compare_uint32;have e:∀x:Int,At (c_cmp_isNaN_uint32.S n x) (fun(r:Bool)=>r=false):=fun x=>⟨x != x,rfl,by simp⟩
 refine .skip (.call _ (e a) fun r3 h3=>.skip (.call _ (e b) fun r4 h4=>.skip (.br (fun h=>by rw[h3]at h;cases h) fun _=>.skip (.br (fun h=>by rw[h4]at h;cases h) fun _=>.skip (.br (fun h=>.skip (.done rfl ?_)) fun h=>.skip (.br (fun h2=>.skip (.done rfl ?_)) fun h2=>.skip (.done rfl ?_)))))))
 all_goals (simp only[decide_eq_true_eq,decide_eq_false_iff_not]at*;unfold cmpI)
 ·rw[if_pos h]
 ·rw[if_neg h,if_pos h2]
 ·rw[if_neg h,if_neg h2]
theorem cmp_MAC(n:Nat)(a b:Int):At (c_cmp_Compare_MAC.S n (a,b)) (fun(r:Int)=>r=cmpI a b):=by
 refine(?_ :AtG n (g_cmp_Compare_MAC a b) _);unfold g_cmp_Compare_MAC;have e:∀x:Int,At (c_cmp_isNaN_MAC.S n x) (fun(r:Bool)=>r=false):=fun x=>⟨x != x,rfl,by simp⟩
 refine .skip (.call _ (e a) fun r3 h3=>.skip (.call _ (e b) fun r4 h4=>.skip (.br (fun h=>by rw[h3]at h;cases h) fun _=>.skip (.br (fun h=>by rw[h4]at h;cases h) fun _=>.skip (.br (fun h=>.skip (.done rfl ?_)) fun h=>.skip (.br (fun h2=>.skip (.done rfl ?_)) fun h2=>.skip (.done rfl ?_)))))))
 all_goals (simp only[decide_eq_true_eq,decide_eq_false_iff_not]at*;unfold cmpI)
 ·rw[if_pos h]
 ·rw[if_neg h,if_pos h2]
 ·rw[if_neg h,if_neg h2]
theorem cmp_uint64(n:Nat)(a b:Int):At (c_cmp_Compare_uint64.S n (a,b)) (fun(r:Int)=>r=cmpI a b):=by
 refine(?_ :AtG n (g_cmp_Compare_uint64 a b) _);unfold g_cmp_Compare_uint64;have e:∀x:Int,At (c_cmp_isNaN_uint64.S n x) (fun(r:Bool)=>r=false):=fun x=>⟨x != x,rfl,by simp⟩
 refine .skip (.call _ (e a) fun r3 h3=>.skip (.call _ (e b) fun r4 h4=>.skip (.br (fun h=>by rw[h3]at h;cases h) fun _=>.skip (.br (fun h=>by rw[h4]at h;cases h) fun _=>.skip (.br (fun h=>.skip (.done rfl ?_)) fun h=>.skip (.br (fun h2=>.skip (.done rfl ?_)) fun h2=>.skip (.done rfl ?_)))))))
 all_goals (simp only[decide_eq_true_eq,decide_eq_false_iff_not]at*;unfold cmpI)
 ·rw[if_pos h]
 ·rw[if_neg h,if_pos h2]
 ·rw[if_neg h,if_neg h2]
theorem cmp_byte(n:Nat)(a b:Int):At (c_cmp_Compare_byte.S n (a,b)) (fun(r:Int)=>r=cmpI a b):=by
 refine(?_ :AtG n (g_cmp_Compare_byte a b) _);unfold g_cmp_Compare_byte;have e:∀x:Int,At (c_cmp_isNaN_byte.S n x) (fun(r:Bool)=>r=false):=fun x=>⟨x != x,rfl,by simp⟩
 refine .skip (.call _ (e a) fun r3 h3=>.skip (.call _ (e b) fun r4 h4=>.skip (.br (fun h=>by rw[h3]at h;cases h) fun _=>.skip (.br (fun h=>by rw[h4]at h;cases h) fun _=>.skip (.br (fun h=>.skip (.done rfl ?_)) fun h=>.skip (.br (fun h2=>.skip (.done rfl ?_)) fun h2=>.skip (.done rfl ?_)))))))
 all_goals (simp only[decide_eq_true_eq,decide_eq_false_iff_not]at*;unfold cmpI)
 ·rw[if_pos h]
 ·rw[if_neg h,if_pos h2]
 ·rw[if_neg h,if_neg h2]
def esiL(x:V10 Int):List Int:=[x.a0,x.a1,x.a2,x.a3,x.a4,x.a5,x.a6,x.a7,x.a8,x.a9]
theorem esi_at(n:Nat)(x y:V10 Int):At (c_addr_CompareESI.S n (x,y)) (fun(r:Int)=>r=lexC (esiL x) (esiL y)):=by
 refine(?_ :AtG n (g_addr_CompareESI x y) _);unfold g_addr_CompareESI;refine .skip (.call (fun r=>r=(x.a0,x.a1,x.a2,x.a3,x.a4,x.a5,x.a6,x.a7,x.a8,x.a9)) ⟨_,rfl,rfl⟩ fun r3 h3=>?_)
 subst h3;refine .inl (.skip (.unroll (.skip ?_)));refine .inl (.skip (.call _ (cmp_byte n _ _) fun q0 hq0=>.skip (.br (fun h=>?_) fun h0=>?_)))
 ·refine .skip (.tidy rfl (.skip (.tidy rfl (.inl (.done rfl ?_)))));subst hq0;have hne:cmpI x.a0 y.a0≠0:=by simpa using h
  simp only[esiL,lexC,if_true,if_neg hne]
 have e0:cmpI x.a0 y.a0=0:=by subst hq0;simpa using h0
 refine .skip (.tidy rfl (.skip ?_));refine .inl (.skip (.call _ (cmp_byte n _ _) fun q1 hq1=>.skip (.br (fun h=>?_) fun h1=>?_)))
 ·refine .skip (.tidy rfl (.skip (.tidy rfl (.inl (.done rfl ?_)))));subst hq1;have hne:cmpI x.a1 y.a1≠0:=by simpa using h
  simp only[esiL,lexC,e0,if_true,if_neg hne]
 have e1:cmpI x.a1 y.a1=0:=by subst hq1;simpa using h1
 refine .skip (.tidy rfl (.skip ?_));refine .inl (.skip (.call _ (cmp_byte n _ _) fun q2 hq2=>.skip (.br (fun h=>?_) fun h2=>?_)))
 ·refine .skip (.tidy rfl (.skip (.tidy rfl (.inl (.done rfl ?_)))));subst hq2;have hne:cmpI x.a2 y.a2≠0:=by simpa using h
  simp only[esiL,lexC,e0,e1,if_true,if_neg hne]
 have e2:cmpI x.a2 y.a2=0:=by subst hq2;simpa using h2
 refine .skip (.tidy rfl (.skip ?_));refine .inl (.skip (.call _ (cmp_byte n _ _) fun q3 hq3=>.skip (.br (fun h=>?_) fun h3=>?_)))
 ·refine .skip (.tidy rfl (.skip (.tidy rfl (.inl (.done rfl ?_)))));subst hq3;have hne:cmpI x.a3 y.a3≠0:=by simpa using h
  simp only[esiL,lexC,e0,e1,e2,if_true,if_neg hne]
 have e3:cmpI x.a3 y.a3=0:=by subst hq3;simpa using h3
 refine .skip (.tidy rfl (.skip ?_));refine .inl (.skip (.call _ (cmp_byte n _ _) fun q4 hq4=>.skip (.br (fun h=>?_) fun h4=>?_)))
 ·refine .skip (.tidy rfl (.skip (.tidy rfl (.inl (.done rfl ?_)))));subst hq4;have hne:cmpI x.a4 y.a4≠0:=by simpa using h
  simp only[esiL,lexC,e0,e1,e2,e3,if_true,if_neg hne]
 have e4:cmpI x.a4 y.a4=0:=by subst hq4;simpa using h4
 refine .skip (.tidy rfl (.skip ?_));refine .inl (.skip (.call _ (cmp_byte n _ _) fun q5 hq5=>.skip (.br (fun h=>?_) fun h5=>?_)))
 ·refine .skip (.tidy rfl (.skip (.tidy rfl (.inl (.done rfl ?_)))));subst hq5;have hne:cmpI x.a5 y.a5≠0:=by simpa using h
  simp only[esiL,lexC,e0,e1,e2,e3,e4,if_true,if_neg hne]
 have e5:cmpI x.a5 y.a5=0:=by subst hq5;simpa using h5
 refine .skip (.tidy rfl (.skip ?_));refine .inl (.skip (.call _ (cmp_byte n _ _) fun q6 hq6=>.skip (.br (fun h=>?_) fun h6=>?_)))
 ·refine .skip (.tidy rfl (.skip (.tidy rfl (.inl (.done rfl ?_)))));subst hq6;have hne:cmpI x.a6 y.a6≠0:=by simpa using h
  simp only[esiL,lexC,e0,e1,e2,e3,e4,e5,if_true,if_neg hne]
 have e6:cmpI x.a6 y.a6=0:=by subst hq6;simpa using h6
 refine .skip (.tidy rfl (.skip ?_));refine .inl (.skip (.call _ (cmp_byte n _ _) fun q7 hq7=>.skip (.br (fun h=>?_) fun h7=>?_)))
 ·refine .skip (.tidy rfl (.skip (.tidy rfl (.inl (.done rfl ?_)))));subst hq7;have hne:cmpI x.a7 y.a7≠0:=by simpa using h
  simp only[esiL,lexC,e0,e1,e2,e3,e4,e5,e6,if_true,if_neg hne]
 have e7:cmpI x.a7 y.a7=0:=by subst hq7;simpa using h7
 refine .skip (.tidy rfl (.skip ?_));refine .inl (.skip (.call _ (cmp_byte n _ _) fun q8 hq8=>.skip (.br (fun h=>?_) fun h8=>?_)))
 ·refine .skip (.tidy rfl (.skip (.tidy rfl (.inl (.done rfl ?_)))));subst hq8;have hne:cmpI x.a8 y.a8≠0:=by simpa using h
  simp only[esiL,lexC,e0,e1,e2,e3,e4,e5,e6,e7,if_true,if_neg hne]
 have e8:cmpI x.a8 y.a8=0:=by subst hq8;simpa using h8
 refine .skip (.tidy rfl (.skip ?_));refine .inl (.skip (.call _ (cmp_byte n _ _) fun q9 hq9=>.skip (.br (fun h=>?_) fun h9=>?_)))
 ·refine .skip (.tidy rfl (.skip (.tidy rfl (.inl (.done rfl ?_)))));subst hq9;have hne:cmpI x.a9 y.a9≠0:=by simpa using h
  simp only[esiL,lexC,e0,e1,e2,e3,e4,e5,e6,e7,e8,if_true,if_neg hne]
 have e9:cmpI x.a9 y.a9=0:=by subst hq9;simpa using h9
 refine .skip (.tidy rfl (.skip (.tidy rfl (.inl (.skip (.done rfl ?_))))));simp only[esiL,lexC,e0,e1,e2,e3,e4,e5,e6,e7,e8,e9,if_true]
def esi0:V10 Int:=⟨0,0,0,0,0,0,0,0,0,0⟩
def keyV(x:NLRI):NLRI:=
 if x.Kind=5 then Go.L.NLRI.mk x.Kind x.RD esi0 x.Tag x.MAC x.IP x.HasIP x.Prefix 0 0 0
 else if x.Kind=2 then Go.L.NLRI.mk x.Kind x.RD esi0 x.Tag x.MAC x.IP x.HasIP x.Prefix x.Gateway 0 0
 else Go.L.NLRI.mk x.Kind x.RD x.ESI x.Tag x.MAC x.IP x.HasIP x.Prefix x.Gateway 0 0
theorem key_at(n:Nat)(x:NLRI):At (c_nlri_Key.S n x) (fun(r:NLRI)=>r=keyV x):=by
 refine(?_ :AtG n (g_nlri_Key x) _);unfold g_nlri_Key keyV;refine .skip (.br (fun h=>.skip (.done rfl ?_)) fun h=>.skip (.br (fun h2=>.skip (.done rfl ?_)) fun h2=>.skip (.done rfl ?_)))
 all_goals (simp only[beq_iff_eq,beq_eq_false_iff_ne]at*)
 ·rw[if_pos h];rfl
 ·rw[if_neg h,if_pos h2];rfl
 ·rw[if_neg h,if_neg h2]
theorem order_at(n:Nat)(x y:Bool):At (c_nlri_order.S n (x,y)) (fun(r:Int)=>r=cmpI (tint x) (tint y)):=by cases x<;>cases y<;>exact⟨_,rfl,rfl⟩
def numsN(k:NLRI):List Int:=[k.Kind,k.RD]++(esiL k.ESI++[k.Tag,k.MAC,tint k.HasIP,k.IP,k.Prefix.IP,k.Prefix.Len,k.Gateway])
def cmpN(x y:NLRI):Int:=lexC (numsN (keyV x)) (numsN (keyV y))
theorem lexC_append:∀{a a':List Int} (b b':List Int),a.length=a'.length→lexC (a++b) (a'++b')=if lexC a a'=0 then lexC b b' else lexC a a'
 | [],[],b,b',_=>by simp[lexC]
 |x::a,y::a',b,b',h=>by
  simp only[List.cons_append,lexC,lexC_append b b' (Nat.succ.inj h)];split
  ·rfl
  ·rfl
theorem numsN_c(k k':NLRI):lexC (numsN k) (numsN k')=lexOr [cmpI k.Kind k'.Kind,cmpI k.RD k'.RD,lexC (esiL k.ESI) (esiL k'.ESI),cmpI k.Tag k'.Tag,cmpI k.MAC k'.MAC,cmpI (tint k.HasIP) (tint k'.HasIP),cmpI k.IP k'.IP,cmpI k.Prefix.IP k'.Prefix.IP,cmpI k.Prefix.Len k'.Prefix.Len,cmpI k.Gateway k'.Gateway]:=by
 unfold numsN;rw[lexC_append (a:=[k.Kind,k.RD]) (a':=[k'.Kind,k'.RD]) _ _ rfl,lexC_append (a:=esiL k.ESI) (a':=esiL k'.ESI) _ _ rfl];simp only[lexOr,lexC];grind
theorem nlri_at(n:Nat)(hn:11≤n)(x y:NLRI):At (c_nlri_Compare.S n (x,y)) (fun(r:Int)=>r=cmpN x y):=by
 refine(?_ :AtG n (g_nlri_Compare x y) _);unfold g_nlri_Compare;refine .skip (.call _ (key_at n x) fun r3 h3=>.skip (.call _ (key_at n y) fun r4 h4=>?_))
 refine .skip (.call _ (cmp_int n _ _) fun q0 e0=>.skip (.call _ (cmp_uint64 n _ _) fun q1 e1=>.skip (.call _ (esi_at n _ _) fun q2 e2=>.skip (.call _ (cmp_uint32 n _ _) fun q3 e3=>.skip (.call _ (cmp_MAC n _ _) fun q4 e4=>.skip (.call _ (order_at n _ _) fun q5 e5=>?_))))))
 refine .skip (.call _ (cmp_IP n _ _) fun q6 e6=>.skip (.call _ (cmp_IP n _ _) fun q7 e7=>.skip (.call _ (cmp_int n _ _) fun q8 e8=>.skip (.call _ (cmp_IP n _ _) fun q9 e9=>.skip (.call _ (or_at n _ (by show 10<n;omega) (by show 10<100000;omega)) fun r hr=>.skip (.done rfl ?_))))))
 subst h3 h4 e0 e1 e2 e3 e4 e5 e6 e7 e8 e9;refine Eq.trans hr ?_;rw[cmpN,numsN_c]
theorem cmpN_zero(x y:NLRI):cmpN x y=0↔numsN (keyV x)=numsN (keyV y):=lexC_zero rfl
theorem cmpN_swap(x y:NLRI):cmpN y x= - cmpN x y:=lexC_swap _ _
theorem cmpN_trans{x y z:NLRI}(h1:cmpN x y<0)(h2:cmpN y z<0):cmpN x z<0:=lexC_trans h1 h2
end Go.L
end
section
namespace Go.L
open Go.AM
def inW(x:Int):Prop:=0≤x∧x<4294967296
def okE(x:V10 Int):Prop:=inW x.a0∧inW x.a1∧inW x.a2∧inW x.a3∧inW x.a4∧inW x.a5∧inW x.a6∧inW x.a7∧inW x.a8∧inW x.a9
def okN(x:NLRI):Prop:=okE x.ESI∧inW x.Tag∧inW x.IP∧inW x.Prefix.IP∧inW x.Gateway
theorem inW0:inW 0:=by unfold inW;omega
theorem okE0:okE esi0:=⟨inW0,inW0,inW0,inW0,inW0,inW0,inW0,inW0,inW0,inW0⟩
theorem keyV_okN{x:NLRI}(h:okN x):okN (keyV x):=by
 unfold keyV;split
 ·exact⟨okE0,h.2.1,h.2.2.1,h.2.2.2.1,inW0⟩
 ·split
  ·exact⟨okE0,h.2.1,h.2.2.1,h.2.2.2.1,h.2.2.2.2⟩
  ·exact⟨h.1,h.2.1,h.2.2.1,h.2.2.2.1,h.2.2.2.2⟩
theorem wi64{x:Int}(h:inW x):IntKind.wrap .i64 x=x:=by unfold inW at h;exact wrap_i64 (by omega) (by omega)
theorem wu64{x:Int}(h:inW x):IntKind.wrap .u64 x=x:=by
 unfold inW at h;simp[IntKind.wrap,IntKind.bits,IntKind.signed];omega
theorem rcmp_at(n:Nat)(x y:Int):At (c_ref01_compare.S n (x,y)) (fun(r:Int)=>r=cmpI x y):=by
 refine(?_ :AtG n (g_ref01_compare x y) _);unfold g_ref01_compare cmpI;refine .skip (.br (fun h=>.skip (.done rfl ?_)) fun h=>.skip (.br (fun h2=>.skip (.done rfl ?_)) fun h2=>.skip (.done rfl ?_)))
 all_goals (simp only[decide_eq_true_eq,decide_eq_false_iff_not]at*)
 ·rw[if_pos h]
 ·rw[if_neg h,if_pos h2]
 ·rw[if_neg h,if_neg h2]
theorem rcmp4_at(n:Nat)(x y:Int):At (c_ref04_compare.S n (x,y)) (fun(r:Int)=>r=cmpI x y):=by
 refine(?_ :AtG n (g_ref04_compare x y) _);unfold g_ref04_compare cmpI;refine .skip (.br (fun h=>.skip (.done rfl ?_)) fun h=>.skip (.br (fun h2=>.skip (.done rfl ?_)) fun h2=>.skip (.done rfl ?_)))
 all_goals (simp only[decide_eq_true_eq,decide_eq_false_iff_not]at*)
 ·rw[if_pos h]
 ·rw[if_neg h,if_pos h2]
 ·rw[if_neg h,if_neg h2]
theorem rprefix_at(n:Nat)(x y:Prefix)(hx:inW x.IP)(hy:inW y.IP):At (c_ref01_ComparePrefix.S n (x,y)) (fun(r:Int)=>r=lexOr [cmpI x.IP y.IP,cmpI x.Len y.Len]):=by
 refine(?_ :AtG n (g_ref01_ComparePrefix x y) _);unfold g_ref01_ComparePrefix;rw[wi64 hx,wi64 hy];refine .skip (.call _ (rcmp_at n _ _) fun(r:Int) hr=>.skip (.br (fun h=>.skip (.call _ (rcmp_at n _ _) fun(s:Int) hs=>.skip (.done rfl ?_))) fun h=>.skip (.done rfl ?_)))
 ·simp only[beq_iff_eq]at h;subst hr;rw[hs];simp only[lexOr,h,if_true];grind
 ·rw[beq_eq_false_iff_ne]at h;subst hr;simp only[lexOr,if_neg h]
theorem resi_at(n:Nat)(x y:V10 Int)(hx:okE x)(hy:okE y):At (c_ref01_CompareESI.S n (x,y)) (fun(r:Int)=>r=lexC (esiL x) (esiL y)):=by
 refine(?_ :AtG n (g_ref01_CompareESI x y) _);unfold g_ref01_CompareESI;obtain⟨x0,x1,x2,x3,x4,x5,x6,x7,x8,x9⟩:=hx;obtain⟨y0,y1,y2,y3,y4,y5,y6,y7,y8,y9⟩:=hy;rw[wi64 x0,wi64 x1,wi64 x2,wi64 x3,wi64 x4,wi64 x5,wi64 x6,wi64 x7,wi64 x8,wi64 x9,wi64 y0,wi64 y1,wi64 y2,wi64 y3,wi64 y4,wi64 y5,wi64 y6,wi64 y7,wi64 y8,wi64 y9];refine .skip (.unroll ?_);refine .skip (.call _ (rcmp_at n _ _) fun q0 e0=>.skip (.br (fun h=>.skip (.done rfl ?_)) fun h0=>?_))
 ·subst e0;have hne:cmpI x.a0 y.a0≠0:=by simpa using h
  simp only[esiL,lexC,if_true,if_neg hne]
 replace e0:cmpI x.a0 y.a0=0:=by subst e0;simpa using h0
 refine .skip (.call _ (rcmp_at n _ _) fun q1 e1=>.skip (.br (fun h=>.skip (.done rfl ?_)) fun h1=>?_))
 ·subst e1;have hne:cmpI x.a1 y.a1≠0:=by simpa using h
  simp only[esiL,lexC,e0,if_true,if_neg hne]
 replace e1:cmpI x.a1 y.a1=0:=by subst e1;simpa using h1
 refine .skip (.call _ (rcmp_at n _ _) fun q2 e2=>.skip (.br (fun h=>.skip (.done rfl ?_)) fun h2=>?_))
 ·subst e2;have hne:cmpI x.a2 y.a2≠0:=by simpa using h
  simp only[esiL,lexC,e0,e1,if_true,if_neg hne]
 replace e2:cmpI x.a2 y.a2=0:=by subst e2;simpa using h2
 refine .skip (.call _ (rcmp_at n _ _) fun q3 e3=>.skip (.br (fun h=>.skip (.done rfl ?_)) fun h3=>?_))
 ·subst e3;have hne:cmpI x.a3 y.a3≠0:=by simpa using h
  simp only[esiL,lexC,e0,e1,e2,if_true,if_neg hne]
 replace e3:cmpI x.a3 y.a3=0:=by subst e3;simpa using h3
 refine .skip (.call _ (rcmp_at n _ _) fun q4 e4=>.skip (.br (fun h=>.skip (.done rfl ?_)) fun h4=>?_))
 ·subst e4;have hne:cmpI x.a4 y.a4≠0:=by simpa using h
  simp only[esiL,lexC,e0,e1,e2,e3,if_true,if_neg hne]
 replace e4:cmpI x.a4 y.a4=0:=by subst e4;simpa using h4
 refine .skip (.call _ (rcmp_at n _ _) fun q5 e5=>.skip (.br (fun h=>.skip (.done rfl ?_)) fun h5=>?_))
 ·subst e5;have hne:cmpI x.a5 y.a5≠0:=by simpa using h
  simp only[esiL,lexC,e0,e1,e2,e3,e4,if_true,if_neg hne]
 replace e5:cmpI x.a5 y.a5=0:=by subst e5;simpa using h5
 refine .skip (.call _ (rcmp_at n _ _) fun q6 e6=>.skip (.br (fun h=>.skip (.done rfl ?_)) fun h6=>?_))
 ·subst e6;have hne:cmpI x.a6 y.a6≠0:=by simpa using h
  simp only[esiL,lexC,e0,e1,e2,e3,e4,e5,if_true,if_neg hne]
 replace e6:cmpI x.a6 y.a6=0:=by subst e6;simpa using h6
 refine .skip (.call _ (rcmp_at n _ _) fun q7 e7=>.skip (.br (fun h=>.skip (.done rfl ?_)) fun h7=>?_))
 ·subst e7;have hne:cmpI x.a7 y.a7≠0:=by simpa using h
  simp only[esiL,lexC,e0,e1,e2,e3,e4,e5,e6,if_true,if_neg hne]
 replace e7:cmpI x.a7 y.a7=0:=by subst e7;simpa using h7
 refine .skip (.call _ (rcmp_at n _ _) fun q8 e8=>.skip (.br (fun h=>.skip (.done rfl ?_)) fun h8=>?_))
 ·subst e8;have hne:cmpI x.a8 y.a8≠0:=by simpa using h
  simp only[esiL,lexC,e0,e1,e2,e3,e4,e5,e6,e7,if_true,if_neg hne]
 replace e8:cmpI x.a8 y.a8=0:=by subst e8;simpa using h8
 refine .skip (.call _ (rcmp_at n _ _) fun q9 e9=>.skip (.br (fun h=>.skip (.done rfl ?_)) fun h9=>?_))
 ·subst e9;have hne:cmpI x.a9 y.a9≠0:=by simpa using h
  simp only[esiL,lexC,e0,e1,e2,e3,e4,e5,e6,e7,e8,if_true,if_neg hne]
 replace e9:cmpI x.a9 y.a9=0:=by subst e9;simpa using h9
 repeat first |refine .skip ?_ |refine .done rfl ?_
 simp only[esiL,lexC,e0,e1,e2,e3,e4,e5,e6,e7,e8,e9,if_true]
theorem rkey_at(n:Nat)(x:NLRI):At (c_ref04_Key.S n x) (fun(r:NLRI)=>r=keyV x):=by
 refine(?_ :AtG n (g_ref04_Key x) _);unfold g_ref04_Key keyV;refine .skip (.br (fun h=>.skip (.br (fun h2=>.skip (.done rfl ?_)) fun h2=>.skip (.done rfl ?_))) fun h=>.skip (.br (fun h2=>.skip (.br (fun h3=>.skip (.done rfl ?_)) fun h3=>?_)) fun h2=>.skip (.br (fun h3=>?_) fun h3=>.skip (.done rfl ?_))))
 all_goals (simp only[beq_iff_eq,beq_eq_false_iff_ne]at*)
 ·rw[if_pos h2];rfl
 ·rw[if_neg h2,if_pos h];rfl
 ·rw[if_pos h3];rfl
 ·exact absurd h2 h3
 ·exact absurd h3 h2
 ·rw[if_neg h2,if_neg h]
theorem compare_at(n:Nat)(a b:NLRI)(ha:okN a)(hb:okN b):At (c_ref04_Compare.S n (a,b)) (fun(r:Int)=>r=cmpN a b):=by
 refine(?_ :AtG n (g_ref04_Compare a b) _);unfold g_ref04_Compare;refine .skip (.call _ (rkey_at n a) fun k hk=>.skip (.call _ (rkey_at n b) fun l hl=>?_))
 have ka:okN k:=by rw[hk];exact keyV_okN ha
 have kb:okN l:=by rw[hl];exact keyV_okN hb
 have hc:cmpN a b=lexOr [cmpI k.Kind l.Kind,cmpI k.RD l.RD,lexC (esiL k.ESI) (esiL l.ESI),cmpI k.Tag l.Tag,cmpI k.MAC l.MAC,cmpI (tint k.HasIP) (tint l.HasIP),cmpI k.IP l.IP,cmpI k.Prefix.IP l.Prefix.IP,cmpI k.Prefix.Len l.Prefix.Len,cmpI k.Gateway l.Gateway]:=by
  rw[cmpN,← hk,← hl];exact numsN_c k l
 rw[hc];rw[wu64 ka.2.1,wu64 kb.2.1,wu64 ka.2.2.1,wu64 kb.2.2.1,wu64 ka.2.2.2.2,wu64 kb.2.2.2.2];clear hc hk hl;have num:∀x:Bool,At (c_ref04_number.S n x) (fun(r:Int)=>r=tint x):=fun x=>by
  refine(?_ :AtG n (g_ref04_number x) _);unfold g_ref04_number;exact .skip (.br (fun h=>.skip (.done rfl (by rw[h];rfl))) fun h=>.skip (.done rfl (by rw[h];rfl)))
 generalize hL:lexOr _=L;have no:∀(r:Int) {d:Tmp} {t f:G prog Int},(r==(0:Int))=false→AtG n f (fun(r:Int)=>r=L)→AtG n (.br d (r==(0:Int)) t f) (fun(r:Int)=>r=L):=fun r d t f h hf=>.br (fun h2=>by rw[h]at h2;cases h2) fun _=>hf
 have ne:∀{r:Int},(r==(0:Int))=false→r≠0:=fun h=>by simpa using h
 have ze:∀{r:Int},(r==(0:Int))=true→r=0:=fun h=>by simpa using h
 refine .skip (.br (fun h=>.skip (.done rfl ?_)) fun g0=>.skip (.br (fun h=>.skip (.done rfl ?_)) fun g1=>.skip ?_))
 ·simp only[decide_eq_true_eq]at h;have e:cmpI k.Kind l.Kind= -1:=by unfold cmpI;rw[if_pos h]
  rw[← hL];simp only[lexOr,e,Int.reduceNeg,Int.reduceEq,if_false]
 ·simp only[decide_eq_true_eq,decide_eq_false_iff_not]at h g0;have e:cmpI k.Kind l.Kind=1:=by unfold cmpI;rw[if_neg g0,if_pos h]
  rw[← hL];simp only[lexOr,e,Int.reduceEq,if_false]
 simp only[decide_eq_false_iff_not]at g0 g1;have e0:cmpI k.Kind l.Kind=0:=by unfold cmpI;rw[if_neg g0,if_neg g1]
 refine .call _ (rcmp4_at n _ _) fun r7 h7=>.skip (.br (fun z1=>.skip (.call _ (resi_at n _ _ ka.1 kb.1) fun(r8:Int) h8=>?_)) fun g=>.skip (no _ g (.skip (no _ g (.skip (no _ g (.skip (no _ g (.skip (no _ g (.skip (no _ g (.skip (.done rfl ?_))))))))))))))
 case' _=>skip
 rotate_left
 ·rw[← hL,h7];rw[h7]at g;simp only[lexOr,e0,if_true,if_neg (ne g)]
 have e1:cmpI k.RD l.RD=0:=by rw[← h7];exact ze z1
 refine .skip (.br (fun z2=>.skip (.call _ (rcmp4_at n _ _) fun r9 h9=>?_)) fun g=>.skip (no _ g (.skip (no _ g (.skip (no _ g (.skip (no _ g (.skip (no _ g (.skip (.done rfl ?_))))))))))))
 rotate_left
 ·rw[← hL,h8];rw[h8]at g;simp only[lexOr,e0,e1,if_true,if_neg (ne g)]
 have e2:lexC (esiL k.ESI) (esiL l.ESI)=0:=by rw[← h8];exact ze z2
 refine .skip (.br (fun z3=>.skip (.call _ (rcmp4_at n _ _) fun r10 h10=>?_)) fun g=>.skip (no _ g (.skip (no _ g (.skip (no _ g (.skip (no _ g (.skip (.done rfl ?_))))))))))
 rotate_left
 ·rw[← hL,h9];rw[h9]at g;simp only[lexOr,e0,e1,e2,if_true,if_neg (ne g)]
 have e3:cmpI k.Tag l.Tag=0:=by rw[← h9];exact ze z3
 refine .skip (.br (fun z4=>.skip (.call _ (num _) fun u hu=>.skip (.call _ (num _) fun v hv=>.call _ (rcmp4_at n _ _) fun r13 h13=>?_))) fun g=>.skip (no _ g (.skip (no _ g (.skip (no _ g (.skip (.done rfl ?_))))))))
 rotate_left
 ·rw[← hL,h10];rw[h10]at g;simp only[lexOr,e0,e1,e2,e3,if_true,if_neg (ne g)]
 have e4:cmpI k.MAC l.MAC=0:=by rw[← h10];exact ze z4
 rw[hu,hv]at h13;refine .skip (.br (fun z5=>.skip (.call _ (rcmp4_at n _ _) fun r14 h14=>?_)) fun g=>.skip (no _ g (.skip (no _ g (.skip (.done rfl ?_))))))
 rotate_left
 ·rw[← hL,h13];rw[h13]at g;simp only[lexOr,e0,e1,e2,e3,e4,if_true,if_neg (ne g)]
 have e5:cmpI (tint k.HasIP) (tint l.HasIP)=0:=by rw[← h13];exact ze z5
 refine .skip (.br (fun z6=>.skip (.call _ (rprefix_at n _ _ ka.2.2.2.1 kb.2.2.2.1) fun(r15:Int) h15=>?_)) fun g=>.skip (no _ g (.skip (.done rfl ?_))))
 rotate_left
 ·rw[← hL,h14];rw[h14]at g;simp only[lexOr,e0,e1,e2,e3,e4,e5,if_true,if_neg (ne g)]
 have e6:cmpI k.IP l.IP=0:=by rw[← h14];exact ze z6
 refine .skip (.br (fun z7=>.skip (.call _ (rcmp4_at n _ _) fun r16 h16=>.skip (.done rfl ?_))) fun g=>.skip (.done rfl ?_))
 ·have e7:lexOr [cmpI k.Prefix.IP l.Prefix.IP,cmpI k.Prefix.Len l.Prefix.Len]=0:=by rw[← h15];exact ze z7
  rw[← hL,h16];simp only[lexOr]at e7 ⊢;grind
 ·rw[← hL,h15];rw[h15]at g;have hne:=ne g;simp only[lexOr]at hne ⊢;grind
theorem numsN_inj{a b:NLRI}(h:numsN a=numsN b):a.Kind=b.Kind∧a.RD=b.RD∧a.ESI=b.ESI∧a.Tag=b.Tag∧a.MAC=b.MAC∧a.HasIP=b.HasIP∧a.IP=b.IP∧a.Prefix=b.Prefix∧a.Gateway=b.Gateway:=by
 unfold numsN esiL at h;simp only[List.cons_append,List.nil_append,List.cons.injEq,and_true,tint_inj]at h;obtain⟨h1,h2,e0,e1,e2,e3,e4,e5,e6,e7,e8,e9,h3,h4,h5,h6,h7,h8,h9⟩:=h;refine⟨h1,h2,?_,h3,h4,h5,h6,?_,h9⟩
 ·cases ha:a.ESI;simp_all
 ·cases ha:a.Prefix;simp_all
end Go.L
end
