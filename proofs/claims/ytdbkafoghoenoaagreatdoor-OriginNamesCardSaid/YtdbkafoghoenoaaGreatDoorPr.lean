/- Parts put together. No conditions. -/
import Derived.Test.YtdbkafoghoenoaaGreatDoorWs
import Derived.Test.YtdbkafoghoenoaaGreatDoorPa
import Derived.Test.YtdbkafoghoenoaaGreatDoorWl
set_option linter.unusedSimpArgs false
set_option linter.unusedVariables false
set_option maxRecDepth 100000
section
namespace Go.L
open Go.AM
theorem cmp_int(n:Nat)(a b:Int):At (c_cmp_Compare_int.S n (a,b)) (fun(r:Int)=>r=cmpI a b):=by
 refine(?_ :AtG n (g_cmp_Compare_int a b) _);unfold g_cmp_Compare_int;have e:∀x:Int,At (c_cmp_isNaN_int.S n x) (fun(r:Bool)=>r=false):=fun x=>⟨x != x,rfl,by simp⟩
 refine .skip (.call _ (e a) fun r3 h3=>.skip (.call _ (e b) fun r4 h4=>.skip (.br (fun h=>by rw[h3]at h;cases h) fun _=>.skip (.br (fun h=>by rw[h4]at h;cases h) fun _=>.skip (.br (fun h=>.skip (.done rfl ?_)) fun h=>.skip (.br (fun h2=>.skip (.done rfl ?_)) fun h2=>.skip (.done rfl ?_)))))))
 all_goals (simp only[decide_eq_true_eq,decide_eq_false_iff_not]at*;unfold cmpI)
 ·rw[if_pos h]
 ·rw[if_neg h,if_pos h2]
 ·rw[if_neg h,if_neg h2]
theorem cmp_IP(n:Nat)(a b:Int):At (c_cmp_Compare_IP.S n (a,b)) (fun(r:Int)=>r=cmpI a b):=by
 refine(?_ :AtG n (g_cmp_Compare_IP a b) _);unfold g_cmp_Compare_IP;have e:∀x:Int,At (c_cmp_isNaN_IP.S n x) (fun(r:Bool)=>r=false):=fun x=>⟨x != x,rfl,by simp⟩
 refine .skip (.call _ (e a) fun r3 h3=>.skip (.call _ (e b) fun r4 h4=>.skip (.br (fun h=>by rw[h3]at h;cases h) fun _=>.skip (.br (fun h=>by rw[h4]at h;cases h) fun _=>.skip (.br (fun h=>.skip (.done rfl ?_)) fun h=>.skip (.br (fun h2=>.skip (.done rfl ?_)) fun h2=>.skip (.done rfl ?_)))))))
 all_goals (simp only[decide_eq_true_eq,decide_eq_false_iff_not]at*;unfold cmpI)
 ·rw[if_pos h]
 ·rw[if_neg h,if_pos h2]
 ·rw[if_neg h,if_neg h2]
theorem lexOr_mid{x:Int}{post:List Int}(hx:x≠0):∀{pre:List Int},(∀y∈pre,y=0)→lexOr (pre++x::post)=x
 | [],_=>by simp[lexOr,hx]
 |y::pre,hp=>by
  simp only[List.cons_append,lexOr,hp y List.mem_cons_self,if_true];exact lexOr_mid hx fun z hz=>hp z (List.mem_cons_of_mem _ hz)
theorem lexOr_all:∀{l:List Int},(∀y∈l,y=0)→lexOr l=0
 | [],_=>rfl
 |y::l,h=>by
  simp only[lexOr,h y List.mem_cons_self,if_true];exact lexOr_all fun z hz=>h z (List.mem_cons_of_mem _ hz)
theorem or_at(n:Nat)(l:List Int)(hn:l.length<n)(hs:l.length<100000):At (c_cmp_Or_int.S n l) (fun(r:Int)=>r=lexOr l):=by
 refine(?_ :AtG n (g_cmp_Or_int l) _);unfold g_cmp_Or_int;refine .skip (.op () rfl (.skip (.loop (fun a:Int=>IdxI l (fun pre (_:Unit)=>∀y∈pre,y=0) (a,())) (fun a=>l.length - a.toNat) (Sum.elim (fun(t:Int)=>t=lexOr l) fun _=>∀y∈l,y=0) rfl (IdxI.start (by simp)) (by simpa using hn) (fun a ha=>?_) (fun t ht=>?_))))
 ·refine .skip (.br (fun h=>?_) fun h=>.skip (.done rfl (ha.fin h)))
  obtain⟨x,pre,h1,h2,h3,⟨_,post,hl⟩,h4⟩:=ha.get h;refine .skip (.op x h1 (.skip (.br (fun he=>.skip (.done rfl ?_)) fun he=>.skip (.done rfl ?_))))
  ·show x=lexOr l;rw[hl];exact(lexOr_mid (by simpa using he) h3).symm
  ·refine h4 hs () ?_;intro y hy;rcases List.mem_append.1 hy with hy |hy
   ·exact h3 y hy
   ·simp only[List.mem_singleton]at hy;subst hy;simpa using he
 ·cases t with
  |inl t=>exact .done rfl ht
  |inr t=>exact .skip (.done rfl (lexOr_all ht).symm)
theorem cmp_uint32(n:Nat)(a b:Int):At (c_cmp_Compare_uint32.S n (a,b)) (fun(r:Int)=>r=cmpI a b):=by
 refine(?_ :AtG n (g_cmp_Compare_uint32 a b) _);unfold g_cmp_Compare_uint32;have e:∀x:Int,At (c_cmp_isNaN_uint32.S n x) (fun(r:Bool)=>r=false):=fun x=>⟨x != x,rfl,by simp⟩
 refine .skip (.call _ (e a) fun r3 h3=>.skip (.call _ (e b) fun r4 h4=>.skip (.br (fun h=>by rw[h3]at h;cases h) fun _=>.skip (.br (fun h=>by rw[h4]at h;cases h) fun _=>.skip (.br (fun h=>.skip (.done rfl ?_)) fun h=>.skip (.br (fun h2=>.skip (.done rfl ?_)) fun h2=>.skip (.done rfl ?_)))))))
 all_goals (simp only[decide_eq_true_eq,decide_eq_false_iff_not]at*;unfold cmpI)
 ·rw[if_pos h]
 ·rw[if_neg h,if_pos h2]
 ·rw[if_neg h,if_neg h2]
theorem cmp_MAC(n:Nat)(a b:Int):At (c_cmp_Compare_MAC.S n (a,b)) (fun(r:Int)=>r=cmpI a b):=by
 refine(?_ :AtG n (g_cmp_Compare_MAC a b) _);unfold g_cmp_Compare_MAC;have e:∀x:Int,At (c_cmp_isNaN_MAC.S n x) (fun(r:Bool)=>r=false):=fun x=>⟨x != x,rfl,by simp⟩
 refine .skip (.call _ (e a) fun r3 h3=>.skip (.call _ (e b) fun r4 h4=>.skip (.br (fun h=>by rw[h3]at h;cases h) fun _=>.skip (.br (fun h=>by rw[h4]at h;cases h) fun _=>.skip (.br (fun h=>.skip (.done rfl ?_)) fun h=>.skip (.br (fun h2=>.skip (.done rfl ?_)) fun h2=>.skip (.done rfl ?_)))))))
 all_goals (simp only[decide_eq_true_eq,decide_eq_false_iff_not]at*;unfold cmpI)
 ·rw[if_pos h]
 ·rw[if_neg h,if_pos h2]
 ·rw[if_neg h,if_neg h2]
theorem cmp_uint64(n:Nat)(a b:Int):At (c_cmp_Compare_uint64.S n (a,b)) (fun(r:Int)=>r=cmpI a b):=by
 refine(?_ :AtG n (g_cmp_Compare_uint64 a b) _);unfold g_cmp_Compare_uint64;have e:∀x:Int,At (c_cmp_isNaN_uint64.S n x) (fun(r:Bool)=>r=false):=fun x=>⟨x != x,rfl,by simp⟩
 refine .skip (.call _ (e a) fun r3 h3=>.skip (.call _ (e b) fun r4 h4=>.skip (.br (fun h=>by rw[h3]at h;cases h) fun _=>.skip (.br (fun h=>by rw[h4]at h;cases h) fun _=>.skip (.br (fun h=>.skip (.done rfl ?_)) fun h=>.skip (.br (fun h2=>.skip (.done rfl ?_)) fun h2=>.skip (.done rfl ?_)))))))
 all_goals (simp only[decide_eq_true_eq,decide_eq_false_iff_not]at*;unfold cmpI)
 ·rw[if_pos h]
 ·rw[if_neg h,if_pos h2]
 ·rw[if_neg h,if_neg h2]
theorem cmp_byte(n:Nat)(a b:Int):At (c_cmp_Compare_byte.S n (a,b)) (fun(r:Int)=>r=cmpI a b):=by
 refine(?_ :AtG n (g_cmp_Compare_byte a b) _);unfold g_cmp_Compare_byte;have e:∀x:Int,At (c_cmp_isNaN_byte.S n x) (fun(r:Bool)=>r=false):=fun x=>⟨x != x,rfl,by simp⟩
 refine .skip (.call _ (e a) fun r3 h3=>.skip (.call _ (e b) fun r4 h4=>.skip (.br (fun h=>by rw[h3]at h;cases h) fun _=>.skip (.br (fun h=>by rw[h4]at h;cases h) fun _=>.skip (.br (fun h=>.skip (.done rfl ?_)) fun h=>.skip (.br (fun h2=>.skip (.done rfl ?_)) fun h2=>.skip (.done rfl ?_)))))))
 all_goals (simp only[decide_eq_true_eq,decide_eq_false_iff_not]at*;unfold cmpI)
 ·rw[if_pos h]
 ·rw[if_neg h,if_pos h2]
 ·rw[if_neg h,if_neg h2]
def esiL(x:V10 Int):List Int:=[x.a0,x.a1,x.a2,x.a3,x.a4,x.a5,x.a6,x.a7,x.a8,x.a9]
theorem esi_at(n:Nat)(x y:V10 Int):At (c_addr_CompareESI.S n (x,y)) (fun(r:Int)=>r=lexC (esiL x) (esiL y)):=by
 refine(?_ :AtG n (g_addr_CompareESI x y) _);unfold g_addr_CompareESI;refine .skip (.call (fun r=>r=(x.a0,x.a1,x.a2,x.a3,x.a4,x.a5,x.a6,x.a7,x.a8,x.a9)) ⟨_,rfl,rfl⟩ fun r3 h3=>?_)
 subst h3;refine .inl (.skip (.unroll (.skip ?_)));refine .inl (.skip (.call _ (cmp_byte n _ _) fun q0 hq0=>.skip (.br (fun h=>?_) fun h0=>?_)))
 ·refine .skip (.tidy rfl (.skip (.tidy rfl (.inl (.done rfl ?_)))));subst hq0;have hne:cmpI x.a0 y.a0≠0:=by simpa using h
  simp only[esiL,lexC,if_true,if_neg hne]
 have e0:cmpI x.a0 y.a0=0:=by subst hq0;simpa using h0
 refine .skip (.tidy rfl (.skip ?_));refine .inl (.skip (.call _ (cmp_byte n _ _) fun q1 hq1=>.skip (.br (fun h=>?_) fun h1=>?_)))
 ·refine .skip (.tidy rfl (.skip (.tidy rfl (.inl (.done rfl ?_)))));subst hq1;have hne:cmpI x.a1 y.a1≠0:=by simpa using h
  simp only[esiL,lexC,e0,if_true,if_neg hne]
 have e1:cmpI x.a1 y.a1=0:=by subst hq1;simpa using h1
 refine .skip (.tidy rfl (.skip ?_));refine .inl (.skip (.call _ (cmp_byte n _ _) fun q2 hq2=>.skip (.br (fun h=>?_) fun h2=>?_)))
 ·refine .skip (.tidy rfl (.skip (.tidy rfl (.inl (.done rfl ?_)))));subst hq2;have hne:cmpI x.a2 y.a2≠0:=by simpa using h
  simp only[esiL,lexC,e0,e1,if_true,if_neg hne]
 have e2:cmpI x.a2 y.a2=0:=by subst hq2;simpa using h2
 refine .skip (.tidy rfl (.skip ?_));refine .inl (.skip (.call _ (cmp_byte n _ _) fun q3 hq3=>.skip (.br (fun h=>?_) fun h3=>?_)))
 ·refine .skip (.tidy rfl (.skip (.tidy rfl (.inl (.done rfl ?_)))));subst hq3;have hne:cmpI x.a3 y.a3≠0:=by simpa using h
  simp only[esiL,lexC,e0,e1,e2,if_true,if_neg hne]
 have e3:cmpI x.a3 y.a3=0:=by subst hq3;simpa using h3
 refine .skip (.tidy rfl (.skip ?_));refine .inl (.skip (.call _ (cmp_byte n _ _) fun q4 hq4=>.skip (.br (fun h=>?_) fun h4=>?_)))
 ·refine .skip (.tidy rfl (.skip (.tidy rfl (.inl (.done rfl ?_)))));subst hq4;have hne:cmpI x.a4 y.a4≠0:=by simpa using h
  simp only[esiL,lexC,e0,e1,e2,e3,if_true,if_neg hne]
 have e4:cmpI x.a4 y.a4=0:=by subst hq4;simpa using h4
 refine .skip (.tidy rfl (.skip ?_));refine .inl (.skip (.call _ (cmp_byte n _ _) fun q5 hq5=>.skip (.br (fun h=>?_) fun h5=>?_)))
 ·refine .skip (.tidy rfl (.skip (.tidy rfl (.inl (.done rfl ?_)))));subst hq5;have hne:cmpI x.a5 y.a5≠0:=by simpa using h
  simp only[esiL,lexC,e0,e1,e2,e3,e4,if_true,if_neg hne]
 have e5:cmpI x.a5 y.a5=0:=by subst hq5;simpa using h5
 refine .skip (.tidy rfl (.skip ?_));refine .inl (.skip (.call _ (cmp_byte n _ _) fun q6 hq6=>.skip (.br (fun h=>?_) fun h6=>?_)))
 ·refine .skip (.tidy rfl (.skip (.tidy rfl (.inl (.done rfl ?_)))));subst hq6;have hne:cmpI x.a6 y.a6≠0:=by simpa using h
  simp only[esiL,lexC,e0,e1,e2,e3,e4,e5,if_true,if_neg hne]
 have e6:cmpI x.a6 y.a6=0:=by subst hq6;simpa using h6
 refine .skip (.tidy rfl (.skip ?_));refine .inl (.skip (.call _ (cmp_byte n _ _) fun q7 hq7=>.skip (.br (fun h=>?_) fun h7=>?_)))
 ·refine .skip (.tidy rfl (.skip (.tidy rfl (.inl (.done rfl ?_)))));subst hq7;have hne:cmpI x.a7 y.a7≠0:=by simpa using h
  simp only[esiL,lexC,e0,e1,e2,e3,e4,e5,e6,if_true,if_neg hne]
 have e7:cmpI x.a7 y.a7=0:=by subst hq7;simpa using h7
 refine .skip (.tidy rfl (.skip ?_));refine .inl (.skip (.call _ (cmp_byte n _ _) fun q8 hq8=>.skip (.br (fun h=>?_) fun h8=>?_)))
 ·refine .skip (.tidy rfl (.skip (.tidy rfl (.inl (.done rfl ?_)))));subst hq8;have hne:cmpI x.a8 y.a8≠0:=by simpa using h
  simp only[esiL,lexC,e0,e1,e2,e3,e4,e5,e6,e7,if_true,if_neg hne]
 have e8:cmpI x.a8 y.a8=0:=by subst hq8;simpa using h8
 refine .skip (.tidy rfl (.skip ?_));refine .inl (.skip (.call _ (cmp_byte n _ _) fun q9 hq9=>.skip (.br (fun h=>?_) fun h9=>?_)))
 ·refine .skip (.tidy rfl (.skip (.tidy rfl (.inl (.done rfl ?_)))));subst hq9;have hne:cmpI x.a9 y.a9≠0:=by simpa using h
  simp only[esiL,lexC,e0,e1,e2,e3,e4,e5,e6,e7,e8,if_true,if_neg hne]
 have e9:cmpI x.a9 y.a9=0:=by subst hq9;simpa using h9
 refine .skip (.tidy rfl (.skip (.tidy rfl (.inl (.skip (.done rfl ?_))))));simp only[esiL,lexC,e0,e1,e2,e3,e4,e5,e6,e7,e8,e9,if_true]
def esi0:V10 Int:=⟨0,0,0,0,0,0,0,0,0,0⟩
def keyV(x:NLRI):NLRI:=
 if x.Kind=5 then Go.L.NLRI.mk x.Kind x.RD esi0 x.Tag x.MAC x.IP x.HasIP x.Prefix 0 0 0
 else if x.Kind=2 then Go.L.NLRI.mk x.Kind x.RD esi0 x.Tag x.MAC x.IP x.HasIP x.Prefix x.Gateway 0 0
 else Go.L.NLRI.mk x.Kind x.RD x.ESI x.Tag x.MAC x.IP x.HasIP x.Prefix x.Gateway 0 0
theorem key_at(n:Nat)(x:NLRI):At (c_nlri_Key.S n x) (fun(r:NLRI)=>r=keyV x):=by
 refine(?_ :AtG n (g_nlri_Key x) _);unfold g_nlri_Key keyV;refine .skip (.br (fun h=>.skip (.done rfl ?_)) fun h=>.skip (.br (fun h2=>.skip (.done rfl ?_)) fun h2=>.skip (.done rfl ?_)))
 all_goals (simp only[beq_iff_eq,beq_eq_false_iff_ne]at*)
 ·rw[if_pos h];rfl
 ·rw[if_neg h,if_pos h2];rfl
 ·rw[if_neg h,if_neg h2]
theorem order_at(n:Nat)(x y:Bool):At (c_nlri_order.S n (x,y)) (fun(r:Int)=>r=cmpI (tint x) (tint y)):=by cases x<;>cases y<;>exact⟨_,rfl,rfl⟩
def numsN(k:NLRI):List Int:=[k.Kind,k.RD]++(esiL k.ESI++[k.Tag,k.MAC,tint k.HasIP,k.IP,k.Prefix.IP,k.Prefix.Len,k.Gateway])
def cmpN(x y:NLRI):Int:=lexC (numsN (keyV x)) (numsN (keyV y))
theorem lexC_append:∀{a a':List Int} (b b':List Int),a.length=a'.length→lexC (a++b) (a'++b')=if lexC a a'=0 then lexC b b' else lexC a a'
 | [],[],b,b',_=>by simp[lexC]
 |x::a,y::a',b,b',h=>by
  simp only[List.cons_append,lexC,lexC_append b b' (Nat.succ.inj h)];split
  ·rfl
  ·rfl
theorem numsN_c(k k':NLRI):lexC (numsN k) (numsN k')=lexOr [cmpI k.Kind k'.Kind,cmpI k.RD k'.RD,lexC (esiL k.ESI) (esiL k'.ESI),cmpI k.Tag k'.Tag,cmpI k.MAC k'.MAC,cmpI (tint k.HasIP) (tint k'.HasIP),cmpI k.IP k'.IP,cmpI k.Prefix.IP k'.Prefix.IP,cmpI k.Prefix.Len k'.Prefix.Len,cmpI k.Gateway k'.Gateway]:=by
 unfold numsN;rw[lexC_append (a:=[k.Kind,k.RD]) (a':=[k'.Kind,k'.RD]) _ _ rfl,lexC_append (a:=esiL k.ESI) (a':=esiL k'.ESI) _ _ rfl];simp only[lexOr,lexC];by_cases h0:cmpI k.Kind k'.Kind=0
 ·by_cases h1:cmpI k.RD k'.RD=0
  ·simp[h0,h1]
  ·simp[h0,h1]
 ·simp[h0]
theorem nlri_at(n:Nat)(hn:11≤n)(x y:NLRI):At (c_nlri_Compare.S n (x,y)) (fun(r:Int)=>r=cmpN x y):=by
 refine(?_ :AtG n (g_nlri_Compare x y) _);unfold g_nlri_Compare;refine .skip (.call _ (key_at n x) fun r3 h3=>.skip (.call _ (key_at n y) fun r4 h4=>?_))
 refine .skip (.call _ (cmp_int n _ _) fun q0 e0=>.skip (.call _ (cmp_uint64 n _ _) fun q1 e1=>.skip (.call _ (esi_at n _ _) fun q2 e2=>.skip (.call _ (cmp_uint32 n _ _) fun q3 e3=>.skip (.call _ (cmp_MAC n _ _) fun q4 e4=>.skip (.call _ (order_at n _ _) fun q5 e5=>?_))))))
 refine .skip (.call _ (cmp_IP n _ _) fun q6 e6=>.skip (.call _ (cmp_IP n _ _) fun q7 e7=>.skip (.call _ (cmp_int n _ _) fun q8 e8=>.skip (.call _ (cmp_IP n _ _) fun q9 e9=>.skip (.call _ (or_at n _ (by show 10<n;omega) (by show 10<100000;omega)) fun r hr=>.skip (.done rfl ?_))))))
 subst h3 h4 e0 e1 e2 e3 e4 e5 e6 e7 e8 e9;refine Eq.trans hr ?_;rw[cmpN,numsN_c]
theorem cmpN_zero(x y:NLRI):cmpN x y=0↔numsN (keyV x)=numsN (keyV y):=lexC_zero rfl
theorem cmpN_swap(x y:NLRI):cmpN y x= - cmpN x y:=lexC_swap _ _
theorem cmpN_trans{x y z:NLRI}(h1:cmpN x y<0)(h2:cmpN y z<0):cmpN x z<0:=lexC_trans h1 h2
end Go.L
end
section
namespace Go.L
open Go.AM
def inW(x:Int):Prop:=0≤x∧x<4294967296
end Go.L
end
