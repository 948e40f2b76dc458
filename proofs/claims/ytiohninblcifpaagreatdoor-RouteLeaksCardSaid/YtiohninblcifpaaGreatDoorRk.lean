/- Put together out of parts: What the functions compute, each told by a guide that the kernel checks against the program. No conditions. -/
import Derived.Test.YtiohninblcifpaaGreatDoorWr
import Derived.Test.YtiohninblcifpaaGreatDoorWx
import Derived.Test.YtiohninblcifpaaGreatDoorWf
import Derived.Test.YtiohninblcifpaaGreatDoorPl
section
namespace Go.L
open Go.AM
set_option maxRecDepth 100000
set_option linter.unusedVariables false
set_option linter.unusedSimpArgs false
noncomputable def rZ(x1:(List Int))(x2:Int)(x3:(List Bool))(x4:(List cz)):G prog (Sh.El (.one Bool)):=
 .skip 1<|.call xl () fun(r5:Bool)=>.skip 1<|.br 23 (!r5) (.skip 2<|.done [] false) (.skip 2<|.call yW x4 fun(r7:Bool)=>.skip 1<|.br 26 r7 (.skip 11<|.done [] true) (.skip 1<|.op (bI x1 (eI .i64)) fun _=>.skip 3<|.br 31 (decide ((x1.length:Int)>200)) (.skip 6<|.done [] true) (.skip 1<|.op (bI x3 eB) fun _=>.skip 2<|.br 35 (decide ((x3.length:Int)>80)) (.skip 2<|.done [] true) (.skip 2<|.call Cm x1 fun(r11:aG)=>.skip 11<|.call pO ((aG.mk r11.Leaves r11.fD r11.Links r11.aT r11.aO r11.aH r11.Hosts [] r11.qW r11.mj r11.cF r11.qi r11.xJ r11.bw),x2,x3,x4) fun(r12:(List aB))=>.skip 4<|.call pO (r11,x2,x3,x4) fun(r13:(List aB))=>.skip 3<|.loop (.two (.one Unit) (.one Unit)) [.keep [9,11,12,13]] (fun(a:Int)=>⟨(ap (jl 9) (ap [(.ptr 0 0 0 0),.aq,(.ax (List.map bB r12)),(.ax (List.map bB r13)),si a] (jl 188))),[.row 0 19 [aI r11],(.row 0 19 [[(si r11.Leaves),(si r11.fD),(.ax (List.map dP r11.Links)),(.ax (List.map bp r11.aT)),(.ax (List.map eH r11.aO)),(.ax (List.map bJ r11.aH)),(.ax (List.map eF r11.Hosts)),(.sc (.slice (Option.none) (0:Nat) (0:Nat))),(si r11.qW),(si r11.mj),(si r11.cF),(sb r11.qi),(sb r11.xJ),(si r11.bw.pz),(si r11.bw.wZ),(si r11.bw.Ak),(si r11.bw.nQ),(si r11.bw.tO),(si r11.bw.Window)]])],[]⟩)
  (Sum.elim (fun(_:Unit)=>(.ret,⟨(ap (jl 8) (ap [(sb false)] (jl 193))),[.row 0 19 [aI r11],(.row 0 19 [[(si r11.Leaves),(si r11.fD),(.ax (List.map dP r11.Links)),(.ax (List.map bp r11.aT)),(.ax (List.map eH r11.aO)),(.ax (List.map bJ r11.aH)),(.ax (List.map eF r11.Hosts)),(.sc (.slice (Option.none) (0:Nat) (0:Nat))),(si r11.qW),(si r11.mj),(si r11.cF),(sb r11.qi),(sb r11.xJ),(si r11.bw.pz),(si r11.bw.wZ),(si r11.bw.Ak),(si r11.bw.nQ),(si r11.bw.tO),(si r11.bw.Window)]])],[]⟩)) (fun(_:Unit)=>(.exit 0,⟨(ap (jl 9) (ap [(.ptr 0 0 0 0),.aq,(.ax (List.map bB r12)),(.ax (List.map bB r13))] (jl 189))),[.row 0 19 [aI r11],(.row 0 19 [[(si r11.Leaves),(si r11.fD),(.ax (List.map dP r11.Links)),(.ax (List.map bp r11.aT)),(.ax (List.map eH r11.aO)),(.ax (List.map bJ r11.aH)),(.ax (List.map eF r11.Hosts)),(.sc (.slice (Option.none) (0:Nat) (0:Nat))),(si r11.qW),(si r11.mj),(si r11.cF),(sb r11.qi),(sb r11.xJ),(si r11.bw.pz),(si r11.bw.wZ),(si r11.bw.Ak),(si r11.bw.nQ),(si r11.bw.tO),(si r11.bw.Window)]])],[]⟩))) (0:Int)
  (fun(a14:Int)=>.skip 2<|.op (bI r12 bB) fun _=>.skip 1<|.br 53 (decide (a14<(r12.length:Int))) (.skip 4<|.op (cc r12 bB 8 a14) fun x15=>.skip 1<|.call tR (r13,x15) fun(r16:Bool)=>.skip 1<|.br 62 (!r16) (.skip 2<|.done [.keep [8]] (.inr (.inl ()))) (.skip 4<|.done [.keep [9,11,12,13]] (.inl (IntKind.wrap .i64 (a14+1))))) (.skip 1<|.done [.keep [9,11,12]] (.inr (.inr ()))))
  (Sum.elim (fun _=>.done [] false) (fun _=>.skip 1<|.loop (.two (.one Unit) (.one Unit)) [.keep [9,11,12,14],.cut [0] [] []] (fun(a:Int)=>⟨(ap (jl 9) (ap [(.ptr 0 0 0 0),.aq,(.ax (List.map bB r12)),(.ax (List.map bB r13)),.aq,si a] (jl 187))),[.row 0 19 [aI r11]],[]⟩)
  (Sum.elim (fun(_:Unit)=>(.ret,⟨(ap (jl 8) (ap [(sb false)] (jl 193))),[.row 0 19 [aI r11]],[]⟩)) (fun(_:Unit)=>(.exit 2,⟨(ap (jl 9) (ap [(.ptr 0 0 0 0),.aq,(.ax (List.map bB r12)),(.ax (List.map bB r13))] (jl 189))),[.row 0 19 [aI r11]],[]⟩))) (0:Int)
  (fun(a56:Int)=>.skip 2<|.op (bI r13 bB) fun _=>.skip 1<|.br 66 (decide (a56<(r13.length:Int))) (.skip 4<|.op (cc r13 bB 8 a56) fun x57=>.skip 1<|.call tR (r12,x57) fun(r58:Bool)=>.skip 2<|.loop (.one Bool) [.keep [9,11,12,14,15,16],.cut [0] [] []] (fun(a:(Bool×Int))=>⟨(ap (jl 9) (ap [(.ptr 0 0 0 0),.aq,(.ax (List.map bB r12)),(.ax (List.map bB r13)),.aq,(si a56),sb a.1,si a.2] (jl 185))),[.row 0 19 [aI r11]],[]⟩)
  (fun(t:Bool)=>(.exit 4,⟨(ap (jl 9) (ap [(.ptr 0 0 0 0),.aq,(.ax (List.map bB r12)),(.ax (List.map bB r13)),.aq,(si a56),sb t] (jl 186))),[.row 0 19 [aI r11]],[]⟩)) (r58,(0:Int))
  (fun(a59:(Bool×Int))=>.skip 3<|.op (bI r11.Leaks bL) fun _=>.skip 1<|.br 79 (decide (a59.2<(r11.Leaks.length:Int))) (.skip 3<|.op (cc r13 bB 8 a56) fun x60=>.skip 6<|.op (cc r11.Leaks bL 4 a59.2) fun x61=>.skip 6<|.br 94 a59.1 (.skip 33<|.done [.keep [9,11,12,14,15,16],.cut [0] [] []] (.inl (true,(IntKind.wrap .i64 (a59.2+1))))) (.skip 3<|.op (cc r11.Leaks bL 4 a59.2) fun x63=>.skip 4<|.op (cc r13 bB 8 a56) fun x64=>.skip 4<|.br 107 (x63.To==x64.av) (.skip 3<|.op (cc r11.Leaks bL 4 a59.2) fun x65=>.skip 4<|.call vU (x65.af,x60.af) fun(r66:Bool)=>.skip 2<|.br 118 r66 (.skip 2<|.call tR (r12,(aB.mk x61.From x60.af x60.BD x60.Next x60.dz x60.bV x60.cF)) fun(r67:Bool)=>.skip 6<|.done [.keep [9,11,12,14,15,16],.cut [0] [] []] (.inl (r67,(IntKind.wrap .i64 (a59.2+1))))) (.skip 9<|.done [.keep [9,11,12,14,15,16],.cut [0] [] []] (.inl (false,(IntKind.wrap .i64 (a59.2+1)))))) (.skip 20<|.done [.keep [9,11,12,14,15,16],.cut [0] [] []] (.inl (false,(IntKind.wrap .i64 (a59.2+1))))))) (.skip 1<|.done [.keep [9,11,12,14,15],.cut [0] [] []] (.inr a59.1)))
  (fun(t72:Bool)=>.skip 2<|.br 125 (!t72) (.skip 2<|.done [.keep [8],.cut [0] [] []] (.inr (.inl ()))) (.skip 4<|.done [.keep [9,11,12,14],.cut [0] [] []] (.inl (IntKind.wrap .i64 (a56+1)))))) (.skip 1<|.done [.keep [9,11,12],.cut [0] [] []] (.inr (.inr ()))))
  (Sum.elim (fun _=>.done [] false) (fun _=>.skip 1<|.loop (.two (.one Unit) (.one Unit)) [.keep [9,11,12,18]] (fun(a:Int)=>⟨(ap (jl 9) (ap [(.ptr 0 0 0 0),.aq,(.ax (List.map bB r12)),(.ax (List.map bB r13))] (ap (jl 5) (ap [si a] (jl 183))))),[.row 0 19 [aI r11]],[]⟩)
  (Sum.elim (fun(_:Unit)=>(.ret,⟨(ap (jl 8) (ap [(sb false)] (jl 193))),[.row 0 19 [aI r11]],[]⟩)) (fun(_:Unit)=>(.exit 6,⟨(jl 202),[.row 0 19 [aI r11]],[]⟩))) (0:Int)
  (fun(a79:Int)=>.skip 3<|.op (bI r11.Leaks bL) fun _=>.skip 1<|.br 130 (decide (a79<(r11.Leaks.length:Int))) (.skip 2<|.loop (.two (.one Unit) (.one Unit)) [.keep [9,11,12,18,19]] (fun(a:Int)=>⟨(ap (jl 9) (ap [(.ptr 0 0 0 0),.aq,(.ax (List.map bB r12)),(.ax (List.map bB r13))] (ap (jl 5) (ap [(si a79),si a] (jl 182))))),[.row 0 19 [aI r11]],[]⟩)
  (Sum.elim (fun(_:Unit)=>(.ret,⟨(ap (jl 8) (ap [(sb false)] (jl 193))),[.row 0 19 [aI r11]],[]⟩)) (fun(_:Unit)=>(.exit 8,⟨(ap (jl 9) (ap [(.ptr 0 0 0 0),.aq,(.ax (List.map bB r12)),(.ax (List.map bB r13))] (ap (jl 5) (ap [(si a79)] (jl 183))))),[.row 0 19 [aI r11]],[]⟩))) (0:Int)
  (fun(a80:Int)=>.skip 2<|.op (bI r12 bB) fun _=>.skip 1<|.br 136 (decide (a80<(r12.length:Int))) (.skip 3<|.op (cc r12 bB 8 a80) fun x81=>.skip 5<|.op (cc r11.Leaks bL 4 a79) fun x82=>.skip 4<|.br 151 (x81.av != x82.From) (.skip 18<|.done [.keep [9,11,12,18,19]] (.inl (IntKind.wrap .i64 (a80+1)))) (.skip 3<|.op (cc r11.Leaks bL 4 a79) fun x84=>.skip 4<|.op (cc r12 bB 8 a80) fun x85=>.skip 2<|.call vU (x84.af,x85.af) fun(r86:Bool)=>.skip 2<|.br 165 (!r86) (.skip 4<|.done [.keep [9,11,12,18,19]] (.inl (IntKind.wrap .i64 (a80+1)))) (.skip 3<|.loop (.one Bool) [.keep [9,11,12,18,19,20,21]] (fun(a:(Bool×Int))=>⟨(ap (jl 9) (ap [(.ptr 0 0 0 0),.aq,(.ax (List.map bB r12)),(.ax (List.map bB r13))] (ap (jl 5) (ap [(si a79),(si a80),sb a.1,si a.2] (jl 180))))),[.row 0 19 [aI r11]],[]⟩)
  (fun(t:Bool)=>(.exit 10,⟨(ap (jl 9) (ap [(.ptr 0 0 0 0),.aq,(.ax (List.map bB r12)),(.ax (List.map bB r13))] (ap (jl 5) (ap [(si a79),(si a80),sb t] (jl 181))))),[.row 0 19 [aI r11]],[]⟩)) (false,(0:Int))
  (fun(a88:(Bool×Int))=>.skip 2<|.op (bI r13 bB) fun _=>.skip 1<|.br 169 (decide (a88.2<(r13.length:Int))) (.skip 3<|.br 173 a88.1 (.skip 30<|.done [.keep [9,11,12,18,19,20,21]] (.inl (true,(IntKind.wrap .i64 (a88.2+1))))) (.skip 2<|.op (cc r13 bB 8 a88.2) fun x90=>.skip 5<|.op (cc r11.Leaks bL 4 a79) fun x91=>.skip 4<|.br 186 (x90.av==x91.To) (.skip 2<|.op (cc r13 bB 8 a88.2) fun x92=>.skip 4<|.op (cc r12 bB 8 a80) fun x93=>.skip 9<|.done [.keep [9,11,12,18,19,20,21]] (.inl (((x92.af.IP==x93.af.IP)&&((x92.af.Len==x93.af.Len)&&true)),(IntKind.wrap .i64 (a88.2+1))))) (.skip 17<|.done [.keep [9,11,12,18,19,20,21]] (.inl (false,(IntKind.wrap .i64 (a88.2+1))))))) (.skip 1<|.done [.keep [9,11,12,18,19,20]] (.inr a88.1)))
  (fun(t97:Bool)=>.skip 2<|.br 201 (!t97) (.skip 2<|.done [.keep [8]] (.inr (.inl ()))) (.skip 4<|.done [.keep [9,11,12,18,19]] (.inl (IntKind.wrap .i64 (a80+1)))))))) (.skip 1<|.done [.keep [9,11,12,18]] (.inr (.inr ()))))
  (Sum.elim (fun _=>.done [.keep [8]] (.inr (.inl ()))) (fun _=>.skip 3<|.done [.keep [9,11,12,18]] (.inl (IntKind.wrap .i64 (a79+1)))))) (.skip 1<|.done [.keep []] (.inr (.inr ()))))
  (Sum.elim (fun _=>.done [] false) (fun _=>.skip 1<|.done [] true))))))))))
noncomputable def wT:aK prog:=aK.of qS 10 5 ((List Int)×Int×(List Bool)×(List cz)) (fun x=>[.ax (x.1.map (eI .i64)),si x.2.1,.ax (x.2.2.1.map eB),.ax (x.2.2.2.map cN)]) (.one Bool) (fun r=>.ret (sb r)) (fun x=>rZ x.1 x.2.1 x.2.2.1 x.2.2.2) (fun x=>by kernel_rfl)
end Go.L
end
section
namespace Go.L
open Go.AM
set_option maxRecDepth 100000
set_option linter.unusedVariables false
set_option linter.unusedSimpArgs false
def C6(k:bK)(O:List aB)(x:aB):Prop:=k.To=x.av∧uy k.af x.af=true∧Go.L.aB.mk k.From x.af x.BD x.Next x.dz x.bV x.cF∈O
theorem L4(n:Nat)(hn:5000≤n)(f:aG)(hv:Vf f)(self:Int)(up:List Bool)(rs:List cz):
 (∀x∈oT n (mz f) self up rs,x∈oT n f self up rs)∧(∀x∈oT n f self up rs,x∈oT n (mz f) self up rs∨∃k∈f.Leaks,C6 k (oT n (mz f) self up rs) x)∧
 (∀k∈f.Leaks,∀y∈oT n (mz f) self up rs,y.av=k.From→uy k.af y.af=true→∃z∈oT n f self up rs,z.av=k.To∧z.af=y.af):=by
 by_cases h:0≤self∧self<f.Leaves
 ·have e1:oT n f self up rs=mw f self up rs (Kc n f self):=if_pos h;have hl:=hv.leaves;have hs:=hv.Av;have e2:oT n (mz f) self up rs=mw (mz f) self up rs (Kc n f self):=by
   rw[← PG n f self (DA n f self (FU n hn f hv) h.1 h.2 (by omega) (by omega)) (DA n (mz f) self (FU n hn _ (FT hv)) h.1 h.2 (by show 0≤f.fD;omega) (by show f.Leaves+f.fD≤32;omega))]
   exact if_pos h
  rw[e1,e2];refine⟨fun x hx=>Qy hx,fun x hx=>(Qz hx).imp_right fun⟨k,hk,q1,q2,q3⟩=>⟨k,hk,q1,?_,q3⟩,fun k hk y hy ht hc=>QA hk hy ht ?_⟩
  ·rw[QW];exact hc
  ·rw[← QW n f self];exact q2
 ·have e1:oT n f self up rs=[]:=if_neg h;have e2:oT n (mz f) self up rs=[]:=if_neg h;rw[e1,e2];exact⟨fun _ h=>h,fun _ h=>.inl h,fun _ _ _ h=>by cases h⟩
theorem OM(n:Nat)(hn:5000≤n)(HL:At (xl.S n ()) (fun(b:Bool)=>b=true))(nums:List Int)(self:Int)(up:List Bool)(rs:List cz):At (wT.S n (nums,self,up,rs)) (fun(b:Bool)=>b=true):=by
 refine(?_ :cU n (rZ nums self up rs) _);unfold rZ;refine .skip (.call _ HL fun r5 h5=>.skip (.br (fun h=>by rw[h5]at h;cases h) fun _=>.skip (.call _ (PO n hn rs) fun r7 h7=>.skip (.br (fun _=>.skip (.done rfl rfl)) fun hm=>.skip (.op () rfl (.skip (.br (fun _=>.skip (.done rfl rfl)) fun _=>.skip (.op () rfl (.skip (.br (fun _=>.skip (.done rfl rfl)) fun _=>?_))))))))))
 have hr:MR rs:=h7 hm;refine .skip (.call Vf (Ja nums hn) fun f hv=>.skip (.call _ (Je n hn (mz f) (FT hv) self up rs hr) fun O hO=>.skip (.call _ (Je n hn f hv self up rs hr) fun A hA=>?_)))
 obtain⟨F1,F2,F3⟩:=L4 n hn f hv self up rs;have lO:O.length≤3612:=by rw[hO];exact GO n hn _ (FT hv) self up rs hr
 have lA:A.length≤3612:=by rw[hA];exact GO n hn _ hv self up rs hr
 rw[← hO,← hA]at F1 F2 F3;have lK:=hv.leaks;refine .skip (.loop (fun a:Int=>dA O (fun _ (_:Unit)=>True) (a,())) (fun a=>O.length - a.toNat) (Sum.elim (fun _=>False) fun _=>True) rfl (dA.start trivial) (by simp;omega) (fun a ha=>?_) (fun t ht=>?_))
 ·refine .skip (.op () rfl (.skip (.br (fun h=>?_) fun h=>.skip (.done rfl trivial))))
  obtain⟨x,pre,h1,h2,_,_,h4⟩:=ha.get h;refine .skip (.op x h1 (.skip (.call _ (FV n A x (by omega) (by omega)) fun r16 h16=>.skip (.br (fun h5=>?_) fun _=>.skip (.done rfl (h4 (by omega) () trivial))))))
  have:=h16.2 (F1 x h2);rw[this]at h5;cases h5
 cases t with
 |inl t=>exact ht.elim
 |inr t=>?_
 refine .skip (.loop (fun a:Int=>dA A (fun _ (_:Unit)=>True) (a,())) (fun a=>A.length - a.toNat) (Sum.elim (fun _=>False) fun _=>True) rfl (dA.start trivial) (by simp;omega) (fun a ha=>?_) (fun t ht=>?_))
 ·refine .skip (.op () rfl (.skip (.br (fun h=>?_) fun h=>.skip (.done rfl trivial))))
  obtain⟨x,pre,h1,h2,_,_,h4⟩:=ha.get h;refine .skip (.op x h1 (.skip (.call _ (FV n O x (by omega) (by omega)) fun c0 hc0=>.skip ?_)))
  refine .loop (fun b:Bool×Int=>dA f.Leaks (fun pre (c:Bool)=>(c0=true→c=true)∧∀k∈pre,C6 k O x→c=true) (b.2,b.1)) (fun b=>f.Leaks.length - b.2.toNat) (fun(t:Bool)=>(c0=true→t=true)∧∀k∈f.Leaks,C6 k O x→t=true) rfl (dA.start ⟨id,fun _ h=>(by cases h)⟩) (by simp;omega) (fun b hb=>?_) (fun t ht=>?_)
  ·refine .skip (.op () rfl (.skip (.br (fun g=>?_) fun g=>.skip (.done rfl (hb.fin g)))))
   obtain⟨k,prek,g1,g2,⟨g3,g3'⟩,_,g4⟩:=hb.get g;refine .skip (.op x h1 (.skip (.op k g1 (.skip (.br (fun hc=>.skip (.done rfl (g4 (by omega) true ⟨fun _=>rfl,fun _ _ _=>rfl⟩))) fun hc=>?_)))))
   have nc:∀q∈prek,¬C6 q O x:=fun q hq hg=>by have e:b.1=true:=g3' q hq hg;rw[e]at hc;cases hc
   have n0:¬c0=true:=fun h=>by have e:b.1=true:=g3 h;rw[e]at hc;cases hc
   have fin:∀c':Bool,(C6 k O x→c'=true)→(c0=true→c'=true)∧∀q∈prek++[k],C6 q O x→c'=true:=fun c' hk=>⟨fun h=>absurd h n0,fun q hq hg=>by
    rcases List.mem_append.1 hq with hq |hq
    ·exact absurd hg (nc q hq)
    ·simp only[List.mem_singleton]at hq;subst hq;exact hk hg⟩
   refine .skip (.op k g1 (.skip (.op x h1 (.skip (.br (fun e1=>.skip (.op k g1 (.skip (.call _ (GP n _ _) fun(r66:Bool) h66=>.skip (.br (fun e2=>.skip (.call _ (FV n O _ (by omega) (by omega)) fun r67 h67=>.skip (.done rfl (g4 (by omega) r67 (fin r67 fun hg=>h67.2 hg.2.2))))) fun e2=>.skip (.done rfl (g4 (by omega) false (fin false fun hg=>?_)))))))) fun e1=>.skip (.done rfl (g4 (by omega) false (fin false fun hg=>?_))))))))
   ·have:=hg.2.1;rw[← h66,e2]at this;cases this
   ·have:=hg.1;rw[this]at e1;simp at e1
  ·refine .skip (.br (fun h5=>?_) fun _=>.skip (.done rfl (h4 (by omega) () trivial)))
   have:t=true:=by
    rcases F2 x h2 with h |⟨k,hk,hg⟩
    ·exact ht.1 (hc0.2 h)
    ·exact ht.2 k hk hg
   rw[this]at h5;cases h5
 cases t with
 |inl t=>exact ht.elim
 |inr t=>?_
 refine .skip (.loop (fun a:Int=>dA f.Leaks (fun _ (_:Unit)=>True) (a,())) (fun a=>f.Leaks.length - a.toNat) (Sum.elim (fun _=>False) fun _=>True) rfl (dA.start trivial) (by simp;omega) (fun a ha=>?_) (fun t ht=>?_))
 ·refine .skip (.op () rfl (.skip (.br (fun h=>?_) fun h=>.skip (.done rfl trivial))))
  obtain⟨k,pre,h1,h2,_,_,h4⟩:=ha.get h;refine .skip (.loop (fun a:Int=>dA O (fun _ (_:Unit)=>True) (a,())) (fun a=>O.length - a.toNat) (Sum.elim (fun _=>False) fun _=>True) rfl (dA.start trivial) (by simp;omega) (fun b hb=>?_) (fun t ht=>?_))
  ·refine .skip (.op () rfl (.skip (.br (fun g=>?_) fun g=>.skip (.done rfl trivial))))
   obtain⟨y,prey,g1,g2,_,_,g4⟩:=hb.get g;refine .skip (.op y g1 (.skip (.op k h1 (.skip (.br (fun _=>.skip (.done rfl (g4 (by omega) () trivial))) fun e1=>.skip (.op k h1 (.skip (.op y g1 (.skip (.call _ (GP n _ _) fun(r86:Bool) h86=>.skip (.br (fun _=>.skip (.done rfl (g4 (by omega) () trivial))) fun e2=>.skip ?_)))))))))))
   have ht0:y.av=k.From:=by simpa using e1
   have hc0:uy k.af y.af=true:=by rw[← h86];simpa using e2
   obtain⟨z,hz,hz1,hz2⟩:=F3 k h2 y g2 ht0 hc0;refine .loop (fun b:Bool×Int=>dA A (fun pre (c:Bool)=>(∃w∈pre,w.av=k.To∧w.af=y.af)→c=true) (b.2,b.1)) (fun b=>A.length - b.2.toNat) (fun(t:Bool)=>t=true) rfl (dA.start fun⟨w,hw,_⟩=>by cases hw) (by simp;omega) (fun b hb=>?_) (fun t ht=>?_)
   ·refine .skip (.op () rfl (.skip (.br (fun g=>?_) fun g=>.skip (.done rfl (hb.fin g ⟨z,hz,hz1,hz2⟩)))))
    obtain⟨w,prew,w1,w2,w3,_,w4⟩:=hb.get g;refine .skip (.br (fun hc=>.skip (.done rfl (w4 (by omega) true fun _=>rfl))) fun hc=>?_)
    have fin:∀c':Bool,(w.av=k.To→w.af=y.af→c'=true)→(∃v∈prew++[w],v.av=k.To∧v.af=y.af)→c'=true:=fun c' hk ⟨v,hv1,hv2,hv3⟩=>by
     rcases List.mem_append.1 hv1 with hq |hq
     ·have e:b.1=true:=w3 ⟨v,hq,hv2,hv3⟩;rw[e]at hc;cases hc
     ·simp only[List.mem_singleton]at hq;subst hq;exact hk hv2 hv3
    refine .skip (.op w w1 (.skip (.op k h1 (.skip (.br (fun e1=>.skip (.op w w1 (.skip (.op y g1 (.skip (.done rfl (w4 (by omega) _ (fin _ fun _ hp=>?_)))))))) fun e1=>.skip (.done rfl (w4 (by omega) false (fin false fun hp _=>?_))))))))
    ·rw[hp];simp
    ·rw[hp]at e1;simp at e1
   ·refine .skip (.br (fun h5=>?_) fun _=>.skip (.done rfl (g4 (by omega) () trivial)))
    rw[show t=true from ht]at h5;cases h5
  ·cases t with
   |inl t=>exact ht.elim
   |inr t=>exact .skip (.done rfl (h4 (by omega) () trivial))
 cases t with
 |inl t=>exact ht.elim
 |inr t=>exact .skip (.done rfl rfl)
end Go.L
end
