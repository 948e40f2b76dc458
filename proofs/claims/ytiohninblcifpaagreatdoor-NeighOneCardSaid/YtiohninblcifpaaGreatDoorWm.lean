/- Parts put together. No conditions. -/
import Derived.Test.YtiohninblcifpaaGreatDoorWk
import Derived.Test.YtiohninblcifpaaGreatDoorPb
import Derived.Test.YtiohninblcifpaaGreatDoorWf
import Derived.Test.YtiohninblcifpaaGreatDoorWx
import Derived.Test.YtiohninblcifpaaGreatDoorAc
set_option linter.unusedSimpArgs false
set_option linter.unusedVariables false
set_option maxRecDepth 100000
section
namespace Go.L
open Go.AM
theorem zJ{l l':List aj}(h:l.Perm l'):eF l=eF l':=by
 refine List.Perm.eq_of_pairwise (le:=fun a b=>¬vz b a) (fun a b _ _ h1 h2=>?_) (iH l).2 (iH l').2 ((iH l).1.trans (h.trans (iH l').1.symm))
 unfold vz at h1 h2;have e1:a.bd=b.bd:=by omega
 have e2:a.ip=b.ip:=by omega
 cases a;cases b;simp only at e1 e2;subst e1;subst e2;rfl
def Ex(m:List (aj×ah))(i:Nat):aj:=((m[i]?).map (·.1)).getD ⟨0,0⟩
theorem FA(m:List (aj×ah)):(List.range m.length).map (Ex m)=m.map (·.1):=by
 apply List.ext_getElem
 ·simp
 ·intro i h1 h2;have h:i<m.length:=by simpa using h1
  simp[Ex,h]
theorem FB(m:List (aj×ah))(n:Nat)(hm:m.length<1000000)(hn:m.length<n):
 cG n (fB m) (fun y=>y=(m.length,eF (m.map (·.1)))):=by
 unfold fB;refine .skip<|.inl<|.skip<|.inl<|.skip<|.inl<|.skip<|.loop (fun a=>a.1.Nodup∧(∀i∈a.1,i<m.length)∧a.2=a.1.map (Ex m)) (fun a=>m.length - a.1.length) (fun t=>t.2.Perm (m.map (·.1))) rfl ⟨List.nodup_nil,by simp,rfl⟩ (by simpa using hn) (fun a ha=>?_) (fun t ht=>?_)
 ·obtain⟨hnd,hlt,hk⟩:=ha;refine .pick (fun hall=>.skip<|.done rfl ?_) (fun i hi hns=>?_)
  ·show a.2.Perm _;rw[hk,← FA];exact(JQ hnd hlt hall).map _
  ·have hi':i<m.length:=hi;have hlen:a.1.length<m.length:=by
    have h1:(a.1++[i]).Nodup:=by
     rw[List.nodup_append];exact⟨hnd,by simp,fun x hx y hy=>by simp only[List.mem_singleton]at hy;subst hy;rintro rfl;exact hns hx⟩
    have h2:(a.1++[i]).length≤m.length:=by
     have:=List.Nodup.length_le_of_subset h1 (l₂:=List.range m.length) (fun x hx=>by
      rcases List.mem_append.1 hx with h |h
      ·exact List.mem_range.2 (hlt x h)
      ·simp only[List.mem_singleton]at h;subst h;exact List.mem_range.2 hi')
     simpa using this
    simp at h2;omega
   refine .skip<|.op (m[i]'hi') (List.getElem?_eq_getElem hi')<|.skip<|.inl<|.skip<|.op () ?_ <|.skip<|.tidy rfl<|.skip<|.done rfl ?_
   ·show(if _ then _ else _)=_
    rw[if_pos];refine⟨rfl,?_⟩;have:a.2.length=a.1.length:=by rw[hk];simp
    simp only[roomy,Bool.and_eq_true,decide_eq_true_eq,List.length_singleton,this];omega
   ·refine⟨⟨?_,fun x hx=>?_,?_⟩,?_⟩
    ·rw[List.nodup_append];exact⟨hnd,by simp,fun x hx y hy=>by simp only[List.mem_singleton]at hy;subst hy;rintro rfl;exact hns hx⟩
    ·rcases List.mem_append.1 hx with h |h
     ·exact hlt x h
     ·simp only[List.mem_singleton]at h;subst h;exact hi'
    ·show a.2++[(m[i]'hi').1]=_;rw[List.map_append,← hk];simp[Ex,hi']
    ·show m.length - (a.1++[i]).length<m.length - a.1.length;simp;omega
 ·have hl:t.2.length=m.length:=by have:=ht.length_eq;simpa using this
  refine .tidy rfl<|.inl<|.skip<|.tidy rfl<|.inl<|.skip<|.tidy rfl<|.inl<|.skip<|.aA (fun r=>r=eF t.2) ⟨_,if_pos (by omega),rfl⟩ fun r hr=>.skip<|.tidy rfl<|.inl<|.done rfl ?_
  show(t.2.length,r)=_;rw[hl,hr,zJ ht];rfl
noncomputable def zK(m:List (aj×ah)):Option (Nat×List aj):=if m.length<1000000 then some (m.length,eF (m.map (·.1)))else none
theorem Ir(m:List (aj×ah))(r:Nat×List aj)(h:zK m=some r):G.can (List.length m+1) (fB m) (fun y=>y=r):=by
 unfold zK at h;split at h
 ·rename_i hm;simp only[Option.some.injEq]at h;subst h;exact FB m _ hm (Nat.lt_succ_self _)
 ·cases h
noncomputable def rA:vm prog:=rz.all (fun _ m=>zK m) fun n m r h=>
 ⟨_,G.cF _ _ (fun y (hy:y=r)=>by rw[hy]) (Ir m r h)⟩
end Go.L
end
section
namespace Go.L
noncomputable section
open Go.AM
def He:aa:=(.row 0 2 [[(.mp 1),(.au [[(.fn (.func 142) [] [])],[(.fn (.func 144) [] [])],[(.fn (.func 145) [] [])],[(.fn (.func 147) [] [])],[(.fn (.func 148) [] [])],[(.fn (.func 149) [] [])]])]])
def Hf:aa:=(.row 0 2 [[(.mp 0),(.au [[(.fn (.func 142) [] [])],[(.fn (.func 144) [] [])],[(.fn (.func 145) [] [])],[(.fn (.func 147) [] [])],[(.fn (.func 148) [] [])],[(.fn (.func 149) [] [])]])]])
def um(x1:aQ)(x2:Int)(x3:(List hU))(x4:(List bw)):G prog (Sh.El (.one (List Known))):=
 .skip 3<|.call jm x1 fun(r5:(Int×ByteArray×Int))=>.skip 10<|.br 28 (r5.1 != 0) (.skip 11<|.done [] []) (.skip 4<|.br 32 (decide (x2<0)) (.skip 7<|.done [] []) (.skip 5<|.br 37 (decide (x2≥x1.Leaves)) (.skip 2<|.done [] []) (.skip 2<|.call yW () fun(r9:PUnit)=>.skip 4<|.op (bp x3 fH) fun _=>.skip 1<|.loop (.one (List (aj×ah))) [.keep [1,3,4,12,41,42,43],.cut [0,1,2] [] []] (fun(a:(Int×List (aj×ah)))=>⟨(ap [.ay,(si x2),.ay,(.au (List.map bQ x4)),(.ptr 0 0 0 0)] (ap (jl 7) (ap [(.ptr 2 0 0 0)] (ap (jl 28) (ap [(.au (List.map fH x3)),(si (x3.length:Int)),si a.1] (jl 77)))))),[.row 0 19 [bt x1],.map a.2.length (bG dz dA 0 a.2),He],[]⟩)
  (fun(t:(List (aj×ah)))=>(.exit 0,⟨(ap [.ay,(si x2),.ay,(.au (List.map bQ x4)),(.ptr 0 0 0 0)] (ap (jl 7) (ap [(.ptr 2 0 0 0)] (jl 108)))),[.row 0 19 [bt x1],.map t.length (bG dz dA 0 t),He],[]⟩)) ((0:Int),[])
  (fun(a36:(Int×List (aj×ah)))=>.skip 1<|.br 44 (decide (a36.1<(x3.length:Int))) (.skip 1<|.op (aY x3 fH 6 a36.1) fun x37=>.skip 6<|.br 49 x37.iz (.skip 5<|.br 54 (decide (x37.aB≥0)) (.skip 4<|.op (bp x1.ax aZ) fun _=>.skip 2<|.br 61 (decide (x37.aB<(x1.ax.length:Int))) (.skip 5<|.op (aY x1.ax aZ 2 x37.aB) fun x38=>.skip 6<|.call cR (x38.Leaves,x2) fun(r39:Bool)=>.skip 1<|.br 72 r39 (.skip 4<|.call cR (x38.aW,x37.BD) fun(r40:Bool)=>.skip 1<|.br 78 r40 (.skip 11<|.inl [gA 1 a36.2]<|.eU (pY.at [1] 5 rfl) (a36.2,x37.BD,x37.IP,(ah.mk x37.MAC true x37.Time (0:Int) false (0:Int))) fun(r41:(List (aj×ah)))=>.skip 2<|.done [.keep [1,3,4,12,41,42,43],.cut [0,1,2] [] [bR 1 r41]] (.inl ((IntKind.wrap .i64 (a36.1+1)),r41))) (.skip 3<|.done [.keep [1,3,4,12,41,42,43],.cut [0,1,2] [] [bR 1 a36.2]] (.inl ((IntKind.wrap .i64 (a36.1+1)),a36.2)))) (.skip 9<|.done [.keep [1,3,4,12,41,42,43],.cut [0,1,2] [] [bR 1 a36.2]] (.inl ((IntKind.wrap .i64 (a36.1+1)),a36.2)))) (.skip 3<|.done [.keep [1,3,4,12,41,42,43],.cut [0,1,2] [] [bR 1 a36.2]] (.inl ((IntKind.wrap .i64 (a36.1+1)),a36.2)))) (.skip 10<|.done [.keep [1,3,4,12,41,42,43],.cut [0,1,2] [] [bR 1 a36.2]] (.inl ((IntKind.wrap .i64 (a36.1+1)),a36.2)))) (.skip 15<|.done [.keep [1,3,4,12,41,42,43],.cut [0,1,2] [] [bR 1 a36.2]] (.inl ((IntKind.wrap .i64 (a36.1+1)),a36.2)))) (.skip 1<|.done [.keep [1,3,4,12],.cut [0,1,2] [] [bR 1 a36.2]] (.inr a36.2)))
  (fun(t49:(List (aj×ah)))=>.skip 4<|.inl [gA 1 t49]<|.eU (sA.at [1] 3 rfl) (t49,x1,x2,x4) fun(r50:(List (aj×ah)))=>.skip 2<|.inl [gA 1 r50]<|.skip 4<|.tidy [.keep [2],.cut [3] [] [bR 1 r50]]<|.inl [gA 1 r50]<|.inl [gA 1 r50]<|.eU (rA.at [3,1] 4 rfl) r50 fun(r51:(Nat×List aj))=>.skip 5<|.loop (.one (List Known)) [.keep [12,17,100,101,102],.cut [1,2,4] [] [bR 1 r50,mF 4 0 2 r51.2],.own (.s 17) 3] (fun(a:(Int×List Known))=>⟨(ap (jl 12) (ap [(.ptr 1 0 0 0)] (ap (jl 4) (ap [.sl 3 0 3 0 a.2.length] (ap (jl 82) (ap [(.sl 2 0 2 0 r51.1),(si ((r51.1:Nat):Int)),si a.1] (jl 18))))))),[(.map (List.length r50) (bG dz dA 0 r50)),Hf,(.row 0 2 (List.map ck r51.2)),.row 0 3 (a.2.map cg)],[]⟩)
  (fun(t:(List Known))=>(.exit 2,⟨(ap (jl 17) (ap [.sl 3 0 3 0 t.length] (jl 103))),[(.map (List.length r50) (bG dz dA 0 r50)),Hf,(.row 0 2 (List.map ck r51.2)),.row 0 3 (t.map cg)],[]⟩)) ((0:Int),[])
  (fun(a60:(Int×List Known))=>.skip 1<|.br 103 (decide (a60.1<((r51.1:Nat):Int))) (.skip 1<|.op (aH r51.1 2 2 0 a60.1) fun _=>.op (bP r51.2 ck 2 2 0 (Int.toNat a60.1) 0 fun v=>.agg (ck v)) fun x61=>.skip 10<|.op (qF r50 x61 dz dA eD (ah.mk (0:Int) false (0:Int) (0:Int) false (0:Int)) [(.int .i64),(.int .u32)] true false 0) fun _=>.skip 3<|.op (rV (List.length a60.2) a60.2 [(Known.mk x61.bd x61.ip (Option.getD (Option.map (fun x=>x.2) (aV eD x61 r50 (0:Nat))) (ah.mk (0:Int) false (0:Int) (0:Int) false (0:Int))).ov)] cg 3 24 3 0 6 [5]) fun _=>.skip 3<|.done [.keep [12,17,100,101,102],.cut [0,1,2,3] [] [bR 0 r50,mF 2 0 2 r51.2,bN 3 1 3 (a60.2++[(Known.mk x61.bd x61.ip (Option.getD (Option.map (fun x=>x.2) (aV eD x61 r50 (0:Nat))) (ah.mk (0:Int) false (0:Int) (0:Int) false (0:Int))).ov)]) cg fun _=>rfl]] (.inl ((IntKind.wrap .i64 (a60.1+1)),(a60.2++[(Known.mk x61.bd x61.ip (Option.getD (Option.map (fun x=>x.2) (aV eD x61 r50 (0:Nat))) (ah.mk (0:Int) false (0:Int) (0:Int) false (0:Int))).ov)])))) (.skip 1<|.done [.keep [17],.cut [0,1,2,3] [] [bR 0 r50,mF 2 0 2 r51.2,K8 3 0 3 a60.2]] (.inr a60.2)))
  (fun(t64:(List Known))=>.skip 2<|.done [.eX (ee (.s 8) 3 0 3 (List.length t64) t64 cg fun _=>rfl)] t64)))))
def uo:aF prog:=aF.of nj 10 40 (aQ×Int×(List hU)×(List bw)) (fun x=>[.agg (bt x.1),si x.2.1,.au (x.2.2.1.map fH),.au (x.2.2.2.map bQ)]) (.one (List Known)) (fun r=>.ret (.au (r.map cg))) (fun x=>um x.1 x.2.1 x.2.2.1 x.2.2.2) (fun x=>by kernel_rfl)
def xF(n:Nat):rT prog:=rT.apart uo (fun _=>rfl) (fun _=>rfl) n
end
end Go.L
end
section
namespace Go.L
noncomputable section
open Go.AM
def BB:dV:={val:=fun f=> ![45,46,47,48,49,50,51,137,206,207,208,55,56,57,58,114,116,117,178,59,119,180,181,182,183,184,185,186,187,246,247,248,249,250,92,93,94,95,156,154,213,155,214,260,261,262,263,264,265,266,267,176,243,277,278,279,280,281,282,284,285,296,297,298,175,212,211,244,177,40].contains f,kill:=fun _ _=>[]}
def e_1:Entry:=⟨38,[],(sb true)⟩
theorem NZ:E4 (ya prog BB [] 2000 300) e_1=true:=by kernel_rfl
def N0:aF prog:={f:=38,X:=Unit,args:=fun _=>[],sh:=.one Unit,out:=fun _=>.ret ((sb true)),S:=fun _ _=>some (),ok:=fun _ _ _ _=>KE (wC plainProg.mixed plainProg.names yb.nil 2000 300) NZ}
def qU(x1:bw):G prog (Sh.El (.one Bool)):=
 .skip 5<|.op (bp x1.A.Path (eI .u32)) fun _=>.skip 2<|.br 8 (decide ((x1.A.Path.length:Int)≤40)) (.skip 3<|.op (bp x1.A.th (eI .u32)) fun _=>.skip 3<|.br 15 (decide ((x1.A.th.length:Int)≤20)) (.skip 3<|.op (bp x1.A.jW (vj (cI .u8))) fun _=>.skip 3<|.done [] (decide ((x1.A.jW.length:Int)≤80))) (.skip 7<|.done [] false)) (.skip 14<|.done [] false)
def vK:aF prog:=aF.of BB 10 89 (bw) (fun x=>[.agg (bQ x)]) (.one Bool) (fun r=>.ret (sb r)) (fun x=>qU x) (fun x=>by kernel_rfl)
def qd(x1:(List bw))(x2:Int):G prog (Sh.El (.one Bool)):=
 .skip 2<|.loop (.two (.one Unit) (.one Unit)) [.keep [0,1,5]] (fun(a:Int)=>⟨(ap [(.au (List.map bQ x1)),(si x2),.ay,.ay,.ay,si a] (jl 16)),[],[]⟩)
  (Sum.elim (fun(_:Unit)=>(.ret,⟨(ap (jl 4) (ap [(sb false)] (jl 17))),[],[]⟩)) (fun(_:Unit)=>(.exit 0,⟨(ap [(.au (List.map bQ x1)),(si x2)] (jl 20)),[],[]⟩))) (0:Int)
  (fun(a3:Int)=>.skip 2<|.op (bp x1 bQ) fun _=>.skip 1<|.br 9 (decide (a3<(x1.length:Int))) (.skip 3<|.op (aY x1 bQ 38 a3) fun x4=>.skip 1<|.call vK x4 fun(r5:Bool)=>.skip 1<|.br 17 (!r5) (.skip 2<|.done [.keep [4]] (.inr (.inl ()))) (.skip 4<|.done [.keep [0,1,5]] (.inl (IntKind.wrap .i64 (a3+1))))) (.skip 1<|.done [.keep [0,1]] (.inr (.inr ()))))
  (Sum.elim (fun _=>.done [] false) (fun _=>.skip 1<|.op (bp x1 bQ) fun _=>.skip 3<|.done [] (decide ((x1.length:Int)≤x2))))
def uB:aF prog:=aF.of BB 10 39 ((List bw)×Int) (fun x=>[.au (x.1.map bQ),si x.2]) (.one Bool) (fun r=>.ret (sb r)) (fun x=>qd x.1 x.2) (fun x=>by kernel_rfl)
def qV(x1:(List Known))(x2:(List Known)):G prog (Sh.El (.one Bool)):=
 .skip 2<|.op (bp x1 cg) fun _=>.skip 1<|.op (bp x2 cg) fun _=>.skip 1<|.br 10 ((x1.length:Int) != (x2.length:Int)) (.skip 2<|.done [] false) (.skip 2<|.loop (.two (.one Unit) (.one Unit)) [.keep [0,1,5]] (fun(a:Int)=>⟨(ap [(.au (List.map cg x1)),(.au (List.map cg x2)),.ay,.ay,.ay,si a] (jl 20)),[],[]⟩)
  (Sum.elim (fun(_:Unit)=>(.ret,⟨(ap (jl 4) (ap [(sb false)] (jl 21))),[],[]⟩)) (fun(_:Unit)=>(.exit 0,⟨(jl 26),[],[]⟩))) (0:Int)
  (fun(a4:Int)=>.skip 2<|.op (bp x1 cg) fun _=>.skip 1<|.br 14 (decide (a4<(x1.length:Int))) (.skip 3<|.op (aY x1 cg 3 a4) fun x5=>.skip 3<|.op (aY x2 cg 3 a4) fun x6=>.skip 2<|.br 25 (!((x5.BD==x6.BD)&&((x5.IP==x6.IP)&&((x5.MAC==x6.MAC)&&true)))) (.skip 2<|.done [.keep [4]] (.inr (.inl ()))) (.skip 4<|.done [.keep [0,1,5]] (.inl (IntKind.wrap .i64 (a4+1))))) (.skip 1<|.done [.keep []] (.inr (.inr ()))))
  (Sum.elim (fun _=>.done [] false) (fun _=>.skip 1<|.done [] true)))
def vL:aF prog:=aF.of BB 10 41 ((List Known)×(List Known)) (fun x=>[.au (x.1.map cg),.au (x.2.map cg)]) (.one Bool) (fun r=>.ret (sb r)) (fun x=>qV x.1 x.2) (fun x=>by kernel_rfl)
def wR(x1:(List Int))(x2:Int):G prog (Sh.El (.one Bool)):=
 .skip 2<|.loop (.two (.one Unit) (.one Unit)) [.keep [0,1,5]] (fun(a:Int)=>⟨(ap [(.au (List.map (eI .i64) x1)),(si x2),.ay,.ay,.ay,si a] (jl 12)),[],[]⟩)
  (Sum.elim (fun(_:Unit)=>(.ret,⟨(ap (jl 4) (ap [(sb true)] (jl 13))),[],[]⟩)) (fun(_:Unit)=>(.exit 0,⟨(jl 18),[],[]⟩))) (0:Int)
  (fun(a3:Int)=>.skip 2<|.op (bp x1 (eI .i64)) fun _=>.skip 1<|.br 9 (decide (a3<(x1.length:Int))) (.skip 3<|.op (aY x1 (eI .i64) 1 a3) fun x4=>.skip 3<|.br 17 (x4==x2) (.skip 2<|.done [.keep [4]] (.inr (.inl ()))) (.skip 4<|.done [.keep [0,1,5]] (.inl (IntKind.wrap .i64 (a3+1))))) (.skip 1<|.done [.keep []] (.inr (.inr ()))))
  (Sum.elim (fun _=>.done [] true) (fun _=>.skip 1<|.done [] false))
def wS:aF prog:=aF.of BB 10 98 ((List Int)×Int) (fun x=>[.au (x.1.map (eI .i64)),si x.2]) (.one Bool) (fun r=>.ret (sb r)) (fun x=>wR x.1 x.2) (fun x=>by kernel_rfl)
def qW(x1:aQ)(x2:Int)(x3:Int)(x4:Int):G prog (Sh.El (.one Bool)):=
 .skip 5<|.br 11 (decide (x3≥0)) (.skip 3<|.op (bp x1.ax aZ) fun _=>.skip 3<|.br 18 (decide (x3<(x1.ax.length:Int))) (.skip 3<|.op (aY x1.ax aZ 2 x3) fun x5=>.skip 3<|.call wS (x5.Leaves,x2) fun(r6:Bool)=>.skip 2<|.br 28 r6 (.skip 3<|.op (aY x1.ax aZ 2 x3) fun x7=>.skip 3<|.call wS (x7.aW,x4) fun(r8:Bool)=>.skip 2<|.done [] r8) (.skip 10<|.done [] false)) (.skip 20<|.done [] false)) (.skip 27<|.done [] false)
def nM:aF prog:=aF.of BB 10 42 (aQ×Int×Int×Int) (fun x=>[.agg (bt x.1),si x.2.1,si x.2.2.1,si x.2.2.2]) (.one Bool) (fun r=>.ret (sb r)) (fun x=>qW x.1 x.2.1 x.2.2.1 x.2.2.2) (fun x=>by kernel_rfl)
def jT(r10:Int)(x3:(List hU))(x4:(List bw)):List AVal:=[.ay,(si r10),(.au (List.map fH x3)),(.au (List.map bQ x4))]
def nq(r11:(List Known)):List AVal:=[(.ptr 0 0 0 0),(.au (List.map cg r11))]
def qX(x1:(List Int))(x2:Int)(x3:(List hU))(x4:(List bw)):G prog (Sh.El (.one Bool)):=
 .skip 1<|.call N0 () fun _=>.skip 3<|.op (bp x1 (eI .i64)) fun _=>.skip 2<|.br 26 (decide ((x1.length:Int)>200)) (.skip 11<|.done [] true) (.skip 1<|.op (bp x3 fH) fun _=>.skip 3<|.br 31 (decide ((x3.length:Int)>30)) (.skip 6<|.done [] true) (.skip 1<|.call uB (x4,(30:Int)) fun(r7:Bool)=>.skip 2<|.br 35 (!r7) (.skip 2<|.done [] true) (.skip 2<|.call zP x1 fun(r9:aQ)=>.skip 5<|.call CP (x2,r9.Leaves) fun(r10:Int)=>.skip 5<|.eU (xF 1) (r9,r10,x3,x4) fun(r11:(List Known))=>.skip 3<|.op (bp x3 fH) fun _=>.skip 2<|.loop (.one (List hU)) [.keep [1,2,3,9,10,11,12],.cut [0] [] [],.own (.s 11) 6] (fun(a:(Int×List hU))=>⟨(ap (jT r10 x3 x4) (ap (jl 5) (ap [(.ptr 0 0 0 0),(.au (List.map cg r11)),.sl 1 0 6 0 a.2.length,si a.1] (jl 230)))),[.row 0 19 [bt r9],.row 0 6 (a.2.map fH)],[]⟩)
  (fun(t:(List hU))=>(.exit 0,⟨(ap (jT r10 x3 x4) (ap (jl 5) (ap [(.ptr 0 0 0 0),(.au (List.map cg r11)),.sl 1 0 6 0 t.length] (jl 231)))),[.row 0 19 [bt r9],.row 0 6 (t.map fH)],[]⟩)) ((IntKind.wrap .i64 ((x3.length:Int) - 1)),[])
  (fun(a20:(Int×List hU))=>.skip 2<|.br 51 (decide (a20.1≥0)) (.skip 4<|.op (aY x3 fH 6 a20.1) fun x21=>.skip 2<|.op (rV (List.length a20.2) a20.2 [x21] fH 6 40 1 0 3 [2]) fun _=>.skip 4<|.done [.keep [1,2,3,9,10,11,12],.cut [0,1] [] [bN 1 1 6 (a20.2++[x21]) fH fun _=>rfl]] (.inl ((IntKind.wrap .i64 (a20.1 - 1)),(a20.2++[x21])))) (.skip 1<|.done [.keep [1,2,3,9,10,11],.cut [0,1] [] [bN 1 0 6 a20.2 fH fun _=>rfl]] (.inr a20.2)))
  (fun(t24:(List hU))=>.skip 2<|.op (bp x4 bQ) fun _=>.skip 2<|.loop (.one (List bw)) [.keep [1,2,3,9,10,11,13,14],.cut [0,1] [] [bN 1 0 6 t24 fH fun _=>rfl],.own (.s 13) 38] (fun(a:(Int×List bw))=>⟨(ap (jT r10 x3 x4) (ap (jl 5) (ap [(.ptr 0 0 0 0),(.au (List.map cg r11)),(.sl 1 0 6 0 (List.length t24)),.ay,.sl 2 0 38 0 a.2.length,si a.1] (jl 228)))),[.row 0 19 [bt r9],(.row 0 6 (List.map fH t24)),.row 0 38 (a.2.map bQ)],[]⟩)
  (fun(t:(List bw))=>(.exit 2,⟨(ap (jT r10 x3 x4) (ap (jl 5) (ap [(.ptr 0 0 0 0),(.au (List.map cg r11)),(.sl 1 0 6 0 (List.length t24)),.ay,.sl 2 0 38 0 t.length] (jl 229)))),[.row 0 19 [bt r9],(.row 0 6 (List.map fH t24)),.row 0 38 (t.map bQ)],[]⟩)) ((IntKind.wrap .i64 ((x4.length:Int) - 1)),[])
  (fun(a33:(Int×List bw))=>.skip 2<|.br 65 (decide (a33.1≥0)) (.skip 4<|.op (aY x4 bQ 38 a33.1) fun x34=>.skip 2<|.op (rV (List.length a33.2) a33.2 [x34] bQ 38 224 2 0 4 [3]) fun _=>.skip 4<|.done [.keep [1,2,3,9,10,11,13,14],.cut [0,1,2] [] [bN 1 0 6 t24 fH fun _=>rfl,bN 2 1 38 (a33.2++[x34]) bQ fun _=>rfl]] (.inl ((IntKind.wrap .i64 (a33.1 - 1)),(a33.2++[x34])))) (.skip 1<|.done [.keep [1,2,3,9,10,11,13],.cut [0,1,2] [] [bN 1 0 6 t24 fH fun _=>rfl,bN 2 0 38 a33.2 bQ fun _=>rfl]] (.inr a33.2)))
  (fun(t37:(List bw))=>.skip 4<|.tidy [.eX (ee (.s 77) 1 0 6 (List.length t24) t24 fH fun _=>rfl),.eX (ee (.s 78) 2 0 38 (List.length t37) t37 bQ fun _=>rfl)]<|.eU (xF 3) (r9,r10,t24,t37) fun(r38:(List Known))=>.skip 1<|.call vL (r38,r11) fun(r39:Bool)=>.skip 1<|.br 82 (!r39) (.skip 2<|.done [] false) (.skip 2<|.loop (.two (.one Unit) (.one Unit)) [.keep [1,2,3,9,10,15],.cut [0] [] []] (fun(a:Int)=>⟨(ap (jT r10 x3 x4) (ap (jl 5) (ap (nq r11) (ap (jl 4) (ap [si a] (jl 227)))))),[.row 0 19 [bt r9]],[]⟩)
  (Sum.elim (fun(_:Unit)=>(.ret,⟨(ap (jl 8) (ap [(sb false)] (jl 234))),[.row 0 19 [bt r9]],[]⟩)) (fun(_:Unit)=>(.exit 4,⟨(jl 243),[.row 0 19 [bt r9]],[]⟩))) (0:Int)
  (fun(a157:Int)=>.skip 2<|.op (bp r11 cg) fun _=>.skip 1<|.br 86 (decide (a157<(r11.length:Int))) (.skip 4<|.br 91 (decide (a157>0)) (.skip 3<|.op (aY r11 cg 3 (IntKind.wrap .i64 (a157 - 1))) fun x158=>.skip 4<|.op (aY r11 cg 3 a157) fun x159=>.skip 4<|.br 104 (decide (x158.BD>x159.BD)) (.skip 30<|.done [.keep [8],.cut [0] [] []] (.inr (.inl ()))) (.skip 3<|.op (aY r11 cg 3 (IntKind.wrap .i64 (a157 - 1))) fun x161=>.skip 4<|.op (aY r11 cg 3 a157) fun x162=>.skip 4<|.br 117 (x161.BD==x162.BD) (.skip 3<|.op (aY r11 cg 3 (IntKind.wrap .i64 (a157 - 1))) fun x163=>.skip 4<|.op (aY r11 cg 3 a157) fun x164=>.skip 6<|.br 132 (decide (x163.IP≥x164.IP)) (.skip 2<|.done [.keep [8],.cut [0] [] []] (.inr (.inl ()))) (.skip 4<|.loop (.one (Bool×Bool)) [.keep [1,2,3,9,10,15,16,17,18],.cut [0] [] []] (fun(a:(Bool×Bool×Int))=>⟨(ap (jT r10 x3 x4) (ap (jl 5) (ap (nq r11) (ap (jl 4) (ap [(si a157),sb a.1,sb a.2.1,si a.2.2] (jl 224)))))),[.row 0 19 [bt r9]],[]⟩)
  (fun(t:(Bool×Bool))=>(.exit 6,⟨(ap (jT r10 x3 x4) (ap (jl 5) (ap (nq r11) (ap (jl 4) (ap [(si a157),sb t.1,sb t.2] (jl 225)))))),[.row 0 19 [bt r9]],[]⟩)) (false,false,(0:Int))
  (fun(a166:(Bool×Bool×Int))=>.skip 2<|.op (bp x3 fH) fun _=>.skip 1<|.br 136 (decide (a166.2.2<(x3.length:Int))) (.skip 3<|.op (aY x3 fH 6 a166.2.2) fun x167=>.skip 6<|.br 145 x167.iz (.skip 4<|.op (aY r11 cg 3 a157) fun x168=>.skip 5<|.br 155 (x167.BD==x168.BD) (.skip 4<|.op (aY r11 cg 3 a157) fun x169=>.skip 5<|.br 165 (x167.IP==x169.IP) (.skip 6<|.call nM (r9,r10,x167.aB,x167.BD) fun(r170:Bool)=>.skip 1<|.br 173 r170 (.skip 3<|.br 175 a166.2.1 (.skip 14<|.done [.keep [1,2,3,9,10,15,16,17,18],.cut [0] [] []] (.inl (true,true,(IntKind.wrap .i64 (a166.2.2+1))))) (.skip 4<|.op (aY r11 cg 3 a157) fun x172=>.skip 9<|.done [.keep [1,2,3,9,10,15,16,17,18],.cut [0] [] []] (.inl (true,(x167.MAC==x172.MAC),(IntKind.wrap .i64 (a166.2.2+1)))))) (.skip 4<|.done [.keep [1,2,3,9,10,15,16,17,18],.cut [0] [] []] (.inl (a166.1,a166.2.1,(IntKind.wrap .i64 (a166.2.2+1)))))) (.skip 12<|.done [.keep [1,2,3,9,10,15,16,17,18],.cut [0] [] []] (.inl (a166.1,a166.2.1,(IntKind.wrap .i64 (a166.2.2+1)))))) (.skip 22<|.done [.keep [1,2,3,9,10,15,16,17,18],.cut [0] [] []] (.inl (a166.1,a166.2.1,(IntKind.wrap .i64 (a166.2.2+1)))))) (.skip 32<|.done [.keep [1,2,3,9,10,15,16,17,18],.cut [0] [] []] (.inl (a166.1,a166.2.1,(IntKind.wrap .i64 (a166.2.2+1)))))) (.skip 1<|.done [.keep [1,2,3,9,10,15,16,17],.cut [0] [] []] (.inr (a166.1,a166.2.1))))
  (fun(t179:(Bool×Bool))=>.skip 1<|.loop (.one Bool) [.keep [1,2,3,9,10,15,16,17,20]] (fun(a:(Bool×Int))=>⟨(ap (jT r10 x3 x4) (ap (jl 5) (ap (nq r11) (ap (jl 4) (ap [(si a157),(sb t179.1),sb a.1,.ay,.ay,si a.2] (jl 222)))))),[.row 0 19 [bt r9]],[]⟩)
  (fun(t:Bool)=>(.exit 8,⟨(ap (jT r10 x3 x4) (ap (jl 5) (ap (nq r11) (ap (jl 4) (ap [(si a157),.ay,sb t] (jl 225)))))),[.row 0 19 [bt r9]],[]⟩)) (t179.2,(0:Int))
  (fun(a180:(Bool×Int))=>.skip 2<|.op (bp x4 bQ) fun _=>.skip 2<|.br 189 (decide (a180.2<(x4.length:Int))) (.skip 3<|.br 192 (!t179.1) (.skip 3<|.br 196 a180.1 (.skip 48<|.done [.keep [1,2,3,9,10,15,16,17,20]] (.inl (true,(IntKind.wrap .i64 (a180.2+1))))) (.skip 2<|.op (aY x4 bQ 38 a180.2) fun x182=>.skip 5<|.br 204 (x182.N.Kind==2) (.skip 2<|.op (aY x4 bQ 38 a180.2) fun x183=>.skip 5<|.br 212 x183.N.iz (.skip 2<|.op (aY x4 bQ 38 a180.2) fun x184=>.skip 5<|.op (aY r11 cg 3 a157) fun x185=>.skip 5<|.br 226 (x184.N.IP==x185.IP) (.skip 2<|.op (aY x4 bQ 38 a180.2) fun x186=>.skip 5<|.op (aY r11 cg 3 a157) fun x187=>.skip 9<|.done [.keep [1,2,3,9,10,15,16,17,20]] (.inl ((x186.N.MAC==x187.MAC),(IntKind.wrap .i64 (a180.2+1))))) (.skip 18<|.done [.keep [1,2,3,9,10,15,16,17,20]] (.inl (false,(IntKind.wrap .i64 (a180.2+1)))))) (.skip 32<|.done [.keep [1,2,3,9,10,15,16,17,20]] (.inl (false,(IntKind.wrap .i64 (a180.2+1)))))) (.skip 40<|.done [.keep [1,2,3,9,10,15,16,17,20]] (.inl (false,(IntKind.wrap .i64 (a180.2+1))))))) (.skip 1<|.done [.keep [1,2,3,9,10,15,17]] (.inr a180.1))) (.skip 4<|.done [.keep [1,2,3,9,10,15,17]] (.inr a180.1)))
  (fun(t194:Bool)=>.skip 2<|.br 242 (!t194) (.skip 2<|.done [.keep [8],.cut [0] [] []] (.inr (.inl ()))) (.skip 4<|.done [.keep [1,2,3,9,10,15],.cut [0] [] []] (.inl (IntKind.wrap .i64 (a157+1)))))))) (.skip 19<|.loop (.one (Bool×Bool)) [.keep [1,2,3,9,10,15,16,17,18],.cut [0] [] []] (fun(a:(Bool×Bool×Int))=>⟨(ap (jT r10 x3 x4) (ap (jl 5) (ap (nq r11) (ap (jl 4) (ap [(si a157),sb a.1,sb a.2.1,si a.2.2] (jl 224)))))),[.row 0 19 [bt r9]],[]⟩)
  (fun(t:(Bool×Bool))=>(.exit 6,⟨(ap (jT r10 x3 x4) (ap (jl 5) (ap (nq r11) (ap (jl 4) (ap [(si a157),sb t.1,sb t.2] (jl 225)))))),[.row 0 19 [bt r9]],[]⟩)) (false,false,(0:Int))
  (fun(a197:(Bool×Bool×Int))=>.skip 2<|.op (bp x3 fH) fun _=>.skip 1<|.br 136 (decide (a197.2.2<(x3.length:Int))) (.skip 3<|.op (aY x3 fH 6 a197.2.2) fun x198=>.skip 6<|.br 145 x198.iz (.skip 4<|.op (aY r11 cg 3 a157) fun x199=>.skip 5<|.br 155 (x198.BD==x199.BD) (.skip 4<|.op (aY r11 cg 3 a157) fun x200=>.skip 5<|.br 165 (x198.IP==x200.IP) (.skip 6<|.call nM (r9,r10,x198.aB,x198.BD) fun(r201:Bool)=>.skip 1<|.br 173 r201 (.skip 3<|.br 175 a197.2.1 (.skip 14<|.done [.keep [1,2,3,9,10,15,16,17,18],.cut [0] [] []] (.inl (true,true,(IntKind.wrap .i64 (a197.2.2+1))))) (.skip 4<|.op (aY r11 cg 3 a157) fun x203=>.skip 9<|.done [.keep [1,2,3,9,10,15,16,17,18],.cut [0] [] []] (.inl (true,(x198.MAC==x203.MAC),(IntKind.wrap .i64 (a197.2.2+1)))))) (.skip 4<|.done [.keep [1,2,3,9,10,15,16,17,18],.cut [0] [] []] (.inl (a197.1,a197.2.1,(IntKind.wrap .i64 (a197.2.2+1)))))) (.skip 12<|.done [.keep [1,2,3,9,10,15,16,17,18],.cut [0] [] []] (.inl (a197.1,a197.2.1,(IntKind.wrap .i64 (a197.2.2+1)))))) (.skip 22<|.done [.keep [1,2,3,9,10,15,16,17,18],.cut [0] [] []] (.inl (a197.1,a197.2.1,(IntKind.wrap .i64 (a197.2.2+1)))))) (.skip 32<|.done [.keep [1,2,3,9,10,15,16,17,18],.cut [0] [] []] (.inl (a197.1,a197.2.1,(IntKind.wrap .i64 (a197.2.2+1)))))) (.skip 1<|.done [.keep [1,2,3,9,10,15,16,17],.cut [0] [] []] (.inr (a197.1,a197.2.1))))
  (fun(t210:(Bool×Bool))=>.skip 1<|.loop (.one Bool) [.keep [1,2,3,9,10,15,16,17,20]] (fun(a:(Bool×Int))=>⟨(ap (jT r10 x3 x4) (ap (jl 5) (ap (nq r11) (ap (jl 4) (ap [(si a157),(sb t210.1),sb a.1,.ay,.ay,si a.2] (jl 222)))))),[.row 0 19 [bt r9]],[]⟩)
  (fun(t:Bool)=>(.exit 8,⟨(ap (jT r10 x3 x4) (ap (jl 5) (ap (nq r11) (ap (jl 4) (ap [(si a157),.ay,sb t] (jl 225)))))),[.row 0 19 [bt r9]],[]⟩)) (t210.2,(0:Int))
  (fun(a211:(Bool×Int))=>.skip 2<|.op (bp x4 bQ) fun _=>.skip 2<|.br 189 (decide (a211.2<(x4.length:Int))) (.skip 3<|.br 192 (!t210.1) (.skip 3<|.br 196 a211.1 (.skip 48<|.done [.keep [1,2,3,9,10,15,16,17,20]] (.inl (true,(IntKind.wrap .i64 (a211.2+1))))) (.skip 2<|.op (aY x4 bQ 38 a211.2) fun x213=>.skip 5<|.br 204 (x213.N.Kind==2) (.skip 2<|.op (aY x4 bQ 38 a211.2) fun x214=>.skip 5<|.br 212 x214.N.iz (.skip 2<|.op (aY x4 bQ 38 a211.2) fun x215=>.skip 5<|.op (aY r11 cg 3 a157) fun x216=>.skip 5<|.br 226 (x215.N.IP==x216.IP) (.skip 2<|.op (aY x4 bQ 38 a211.2) fun x217=>.skip 5<|.op (aY r11 cg 3 a157) fun x218=>.skip 9<|.done [.keep [1,2,3,9,10,15,16,17,20]] (.inl ((x217.N.MAC==x218.MAC),(IntKind.wrap .i64 (a211.2+1))))) (.skip 18<|.done [.keep [1,2,3,9,10,15,16,17,20]] (.inl (false,(IntKind.wrap .i64 (a211.2+1)))))) (.skip 32<|.done [.keep [1,2,3,9,10,15,16,17,20]] (.inl (false,(IntKind.wrap .i64 (a211.2+1)))))) (.skip 40<|.done [.keep [1,2,3,9,10,15,16,17,20]] (.inl (false,(IntKind.wrap .i64 (a211.2+1))))))) (.skip 1<|.done [.keep [1,2,3,9,10,15,17]] (.inr a211.1))) (.skip 4<|.done [.keep [1,2,3,9,10,15,17]] (.inr a211.1)))
  (fun(t225:Bool)=>.skip 2<|.br 242 (!t225) (.skip 2<|.done [.keep [8],.cut [0] [] []] (.inr (.inl ()))) (.skip 4<|.done [.keep [1,2,3,9,10,15],.cut [0] [] []] (.inl (IntKind.wrap .i64 (a157+1))))))))) (.skip 45<|.loop (.one (Bool×Bool)) [.keep [1,2,3,9,10,15,16,17,18],.cut [0] [] []] (fun(a:(Bool×Bool×Int))=>⟨(ap (jT r10 x3 x4) (ap (jl 5) (ap (nq r11) (ap (jl 4) (ap [(si a157),sb a.1,sb a.2.1,si a.2.2] (jl 224)))))),[.row 0 19 [bt r9]],[]⟩)
  (fun(t:(Bool×Bool))=>(.exit 6,⟨(ap (jT r10 x3 x4) (ap (jl 5) (ap (nq r11) (ap (jl 4) (ap [(si a157),sb t.1,sb t.2] (jl 225)))))),[.row 0 19 [bt r9]],[]⟩)) (false,false,(0:Int))
  (fun(a228:(Bool×Bool×Int))=>.skip 2<|.op (bp x3 fH) fun _=>.skip 1<|.br 136 (decide (a228.2.2<(x3.length:Int))) (.skip 3<|.op (aY x3 fH 6 a228.2.2) fun x229=>.skip 6<|.br 145 x229.iz (.skip 4<|.op (aY r11 cg 3 a157) fun x230=>.skip 5<|.br 155 (x229.BD==x230.BD) (.skip 4<|.op (aY r11 cg 3 a157) fun x231=>.skip 5<|.br 165 (x229.IP==x231.IP) (.skip 6<|.call nM (r9,r10,x229.aB,x229.BD) fun(r232:Bool)=>.skip 1<|.br 173 r232 (.skip 3<|.br 175 a228.2.1 (.skip 14<|.done [.keep [1,2,3,9,10,15,16,17,18],.cut [0] [] []] (.inl (true,true,(IntKind.wrap .i64 (a228.2.2+1))))) (.skip 4<|.op (aY r11 cg 3 a157) fun x234=>.skip 9<|.done [.keep [1,2,3,9,10,15,16,17,18],.cut [0] [] []] (.inl (true,(x229.MAC==x234.MAC),(IntKind.wrap .i64 (a228.2.2+1)))))) (.skip 4<|.done [.keep [1,2,3,9,10,15,16,17,18],.cut [0] [] []] (.inl (a228.1,a228.2.1,(IntKind.wrap .i64 (a228.2.2+1)))))) (.skip 12<|.done [.keep [1,2,3,9,10,15,16,17,18],.cut [0] [] []] (.inl (a228.1,a228.2.1,(IntKind.wrap .i64 (a228.2.2+1)))))) (.skip 22<|.done [.keep [1,2,3,9,10,15,16,17,18],.cut [0] [] []] (.inl (a228.1,a228.2.1,(IntKind.wrap .i64 (a228.2.2+1)))))) (.skip 32<|.done [.keep [1,2,3,9,10,15,16,17,18],.cut [0] [] []] (.inl (a228.1,a228.2.1,(IntKind.wrap .i64 (a228.2.2+1)))))) (.skip 1<|.done [.keep [1,2,3,9,10,15,16,17],.cut [0] [] []] (.inr (a228.1,a228.2.1))))
  (fun(t241:(Bool×Bool))=>.skip 1<|.loop (.one Bool) [.keep [1,2,3,9,10,15,16,17,20]] (fun(a:(Bool×Int))=>⟨(ap (jT r10 x3 x4) (ap (jl 5) (ap (nq r11) (ap (jl 4) (ap [(si a157),(sb t241.1),sb a.1,.ay,.ay,si a.2] (jl 222)))))),[.row 0 19 [bt r9]],[]⟩)
  (fun(t:Bool)=>(.exit 8,⟨(ap (jT r10 x3 x4) (ap (jl 5) (ap (nq r11) (ap (jl 4) (ap [(si a157),.ay,sb t] (jl 225)))))),[.row 0 19 [bt r9]],[]⟩)) (t241.2,(0:Int))
  (fun(a242:(Bool×Int))=>.skip 2<|.op (bp x4 bQ) fun _=>.skip 2<|.br 189 (decide (a242.2<(x4.length:Int))) (.skip 3<|.br 192 (!t241.1) (.skip 3<|.br 196 a242.1 (.skip 48<|.done [.keep [1,2,3,9,10,15,16,17,20]] (.inl (true,(IntKind.wrap .i64 (a242.2+1))))) (.skip 2<|.op (aY x4 bQ 38 a242.2) fun x244=>.skip 5<|.br 204 (x244.N.Kind==2) (.skip 2<|.op (aY x4 bQ 38 a242.2) fun x245=>.skip 5<|.br 212 x245.N.iz (.skip 2<|.op (aY x4 bQ 38 a242.2) fun x246=>.skip 5<|.op (aY r11 cg 3 a157) fun x247=>.skip 5<|.br 226 (x246.N.IP==x247.IP) (.skip 2<|.op (aY x4 bQ 38 a242.2) fun x248=>.skip 5<|.op (aY r11 cg 3 a157) fun x249=>.skip 9<|.done [.keep [1,2,3,9,10,15,16,17,20]] (.inl ((x248.N.MAC==x249.MAC),(IntKind.wrap .i64 (a242.2+1))))) (.skip 18<|.done [.keep [1,2,3,9,10,15,16,17,20]] (.inl (false,(IntKind.wrap .i64 (a242.2+1)))))) (.skip 32<|.done [.keep [1,2,3,9,10,15,16,17,20]] (.inl (false,(IntKind.wrap .i64 (a242.2+1)))))) (.skip 40<|.done [.keep [1,2,3,9,10,15,16,17,20]] (.inl (false,(IntKind.wrap .i64 (a242.2+1))))))) (.skip 1<|.done [.keep [1,2,3,9,10,15,17]] (.inr a242.1))) (.skip 4<|.done [.keep [1,2,3,9,10,15,17]] (.inr a242.1)))
  (fun(t256:Bool)=>.skip 2<|.br 242 (!t256) (.skip 2<|.done [.keep [8],.cut [0] [] []] (.inr (.inl ()))) (.skip 4<|.done [.keep [1,2,3,9,10,15],.cut [0] [] []] (.inl (IntKind.wrap .i64 (a157+1)))))))) (.skip 1<|.done [.keep [],.cut [0] [] []] (.inr (.inr ()))))
  (Sum.elim (fun _=>.done [] false) (fun _=>.skip 1<|.done [] true))))))))
def vM:aF prog:=aF.of BB 10 9 ((List Int)×Int×(List hU)×(List bw)) (fun x=>[.au (x.1.map (eI .i64)),si x.2.1,.au (x.2.2.1.map fH),.au (x.2.2.2.map bQ)]) (.one Bool) (fun r=>.ret (sb r)) (fun x=>qX x.1 x.2.1 x.2.2.1 x.2.2.2) (fun x=>by kernel_rfl)
end
end Go.L
end
