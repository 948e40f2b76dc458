/- Parts put together. No conditions. -/
import Derived.Test.YtiohninblcifpaaGreatDoorWk
import Derived.Test.YtiohninblcifpaaGreatDoorPb
import Derived.Test.YtiohninblcifpaaGreatDoorWf
import Derived.Test.YtiohninblcifpaaGreatDoorWx
import Derived.Test.YtiohninblcifpaaGreatDoorAc
set_option linter.unusedSimpArgs false
set_option linter.unusedVariables false
set_option maxRecDepth 100000
section
namespace Go.L
open Go.AM
theorem BQ{l l':List aq}(h:l.Perm l'):eG l=eG l':=by
 refine List.Perm.eq_of_pairwise (le:=fun a b=>¬fe b a) (fun a b _ _ h1 h2=>?_) (k6 l).2 (k6 l').2 ((k6 l).1.trans (h.trans (k6 l').1.symm))
 unfold fe at h1 h2;have e1:a.bd=b.bd:=by omega
 have e2:a.ip=b.ip:=by omega
 cases a;cases b;simp only at e1 e2;subst e1;subst e2;rfl
def Hi(m:List (aq×ak))(i:Nat):aq:=((m[i]?).map (·.1)).getD ⟨0,0⟩
theorem Iv(m:List (aq×ak)):(List.range m.length).map (Hi m)=m.map (·.1):=by
 apply List.ext_getElem
 ·simp
 ·intro i h1 h2;have h:i<m.length:=by simpa using h1
  simp[Hi,h]
theorem Iw(m:List (aq×ak))(n:Nat)(hm:m.length<1000000)(hn:m.length<n):
 cQ n (fS m) (fun y=>y=(m.length,eG (m.map (·.1)))):=by
 unfold fS;refine .skip<|.inl<|.skip<|.inl<|.skip<|.inl<|.skip<|.loop (fun a=>a.1.Nodup∧(∀i∈a.1,i<m.length)∧a.2=a.1.map (Hi m)) (fun a=>m.length - a.1.length) (fun t=>t.2.Perm (m.map (·.1))) rfl ⟨List.nodup_nil,by simp,rfl⟩ (by simpa using hn) (fun a ha=>?_) (fun t ht=>?_)
 ·obtain⟨hnd,hlt,hk⟩:=ha;refine .pick (fun hall=>.skip<|.done rfl ?_) (fun i hi hns=>?_)
  ·show a.2.Perm _;rw[hk,← Iv];exact(MI hnd hlt hall).map _
  ·have hi':i<m.length:=hi;have hlen:a.1.length<m.length:=by
    have h1:(a.1++[i]).Nodup:=by
     rw[List.nodup_append];exact⟨hnd,by simp,fun x hx y hy=>by simp only[List.mem_singleton]at hy;subst hy;rintro rfl;exact hns hx⟩
    have h2:(a.1++[i]).length≤m.length:=by
     have:=List.Nodup.length_le_of_subset h1 (l₂:=List.range m.length) (fun x hx=>by
      rcases List.mem_append.1 hx with h |h
      ·exact List.mem_range.2 (hlt x h)
      ·simp only[List.mem_singleton]at h;subst h;exact List.mem_range.2 hi')
     simpa using this
    simp at h2;omega
   refine .skip<|.op (m[i]'hi') (List.getElem?_eq_getElem hi')<|.skip<|.inl<|.skip<|.op () ?_ <|.skip<|.tidy rfl<|.skip<|.done rfl ?_
   ·show(if _ then _ else _)=_
    rw[if_pos];refine⟨rfl,?_⟩;have:a.2.length=a.1.length:=by rw[hk];simp
    simp only[roomy,Bool.and_eq_true,decide_eq_true_eq,List.length_singleton,this];omega
   ·refine⟨⟨?_,fun x hx=>?_,?_⟩,?_⟩
    ·rw[List.nodup_append];exact⟨hnd,by simp,fun x hx y hy=>by simp only[List.mem_singleton]at hy;subst hy;rintro rfl;exact hns hx⟩
    ·rcases List.mem_append.1 hx with h |h
     ·exact hlt x h
     ·simp only[List.mem_singleton]at h;subst h;exact hi'
    ·show a.2++[(m[i]'hi').1]=_;rw[List.map_append,← hk];simp[Hi,hi']
    ·show m.length - (a.1++[i]).length<m.length - a.1.length;simp;omega
 ·have hl:t.2.length=m.length:=by have:=ht.length_eq;simpa using this
  refine .tidy rfl<|.inl<|.skip<|.tidy rfl<|.inl<|.skip<|.tidy rfl<|.inl<|.skip<|.bk (fun r=>r=eG t.2) ⟨_,if_pos (by omega),rfl⟩ fun r hr=>.skip<|.tidy rfl<|.inl<|.done rfl ?_
  show(t.2.length,r)=_;rw[hl,hr,BQ ht];rfl
noncomputable def BR(m:List (aq×ak)):Option (Nat×List aq):=if m.length<1000000 then some (m.length,eG (m.map (·.1)))else none
theorem Ll(m:List (aq×ak))(r:Nat×List aq)(h:BR m=some r):G.can (List.length m+1) (fS m) (fun y=>y=r):=by
 unfold BR at h;split at h
 ·rename_i hm;simp only[Option.some.injEq]at h;subst h;exact Iw m _ hm (Nat.lt_succ_self _)
 ·cases h
noncomputable def sR:xk prog:=sQ.all (fun _ m=>BR m) fun n m r h=>
 ⟨_,G.cM _ _ (fun y (hy:y=r)=>by rw[hy]) (Ll m r h)⟩
end Go.L
end
section
namespace Go.L
noncomputable section
open Go.AM
def Ka:aa:=(.row 0 2 [[(.mp 1),(.aC [[(.fn (.func 142) [] [])],[(.fn (.func 144) [] [])],[(.fn (.func 145) [] [])],[(.fn (.func 147) [] [])],[(.fn (.func 148) [] [])],[(.fn (.func 149) [] [])]])]])
def Kb:aa:=(.row 0 2 [[(.mp 0),(.aC [[(.fn (.func 142) [] [])],[(.fn (.func 144) [] [])],[(.fn (.func 145) [] [])],[(.fn (.func 147) [] [])],[(.fn (.func 148) [] [])],[(.fn (.func 149) [] [])]])]])
def oq(x1:aD)(x2:Int)(x3:(List jh))(x4:(List bt)):G prog (Sh.El (.one (List Known))):=
 .skip 3<|.call jG x1 fun(r5:(Int×ByteArray×Int))=>.skip 10<|.br 28 (r5.1 != 0) (.skip 11<|.done [] []) (.skip 4<|.br 32 (decide (x2<0)) (.skip 7<|.done [] []) (.skip 5<|.br 37 (decide (x2≥x1.Leaves)) (.skip 2<|.done [] []) (.skip 2<|.call Bc () fun(r9:PUnit)=>.skip 4<|.op (bJ x3 lX) fun _=>.skip 1<|.loop (.one (List (aq×ak))) [.keep [1,3,4,12,41,42,43],.cut [0,1,2] [] []] (fun(a:(Int×List (aq×ak)))=>⟨(ap [.av,(si x2),.av,(.aC (List.map cc x4)),(.ptr 0 0 0 0)] (ap (jl 7) (ap [(.ptr 2 0 0 0)] (ap (jl 28) (ap [(.aC (List.map lX x3)),(si (x3.length:Int)),si a.1] (jl 77)))))),[.row 0 19 [aL x1],.map a.2.length (bZ dL dM 0 a.2),Ka],[]⟩)
  (fun(t:(List (aq×ak)))=>(.exit 0,⟨(ap [.av,(si x2),.av,(.aC (List.map cc x4)),(.ptr 0 0 0 0)] (ap (jl 7) (ap [(.ptr 2 0 0 0)] (jl 108)))),[.row 0 19 [aL x1],.map t.length (bZ dL dM 0 t),Ka],[]⟩)) ((0:Int),[])
  (fun(a36:(Int×List (aq×ak)))=>.skip 1<|.br 44 (decide (a36.1<(x3.length:Int))) (.skip 1<|.op (bG x3 lX 6 a36.1) fun x37=>.skip 6<|.br 49 x37.qm (.skip 5<|.br 54 (decide (x37.aH≥0)) (.skip 4<|.op (bJ x1.au bu) fun _=>.skip 2<|.br 61 (decide (x37.aH<(x1.au.length:Int))) (.skip 5<|.op (bG x1.au bu 2 x37.aH) fun x38=>.skip 6<|.call de (x38.Leaves,x2) fun(r39:Bool)=>.skip 1<|.br 72 r39 (.skip 4<|.call de (x38.aI,x37.BD) fun(r40:Bool)=>.skip 1<|.br 78 r40 (.skip 11<|.inl [gO 1 a36.2]<|.fM (qJ.at [1] 5 rfl) (a36.2,x37.BD,x37.IP,(ak.mk x37.bN true x37.Time (0:Int) false (0:Int))) fun(r41:(List (aq×ak)))=>.skip 2<|.done [.keep [1,3,4,12,41,42,43],.cut [0,1,2] [] [bS 1 r41]] (.inl ((IntKind.wrap .i64 (a36.1+1)),r41))) (.skip 3<|.done [.keep [1,3,4,12,41,42,43],.cut [0,1,2] [] [bS 1 a36.2]] (.inl ((IntKind.wrap .i64 (a36.1+1)),a36.2)))) (.skip 9<|.done [.keep [1,3,4,12,41,42,43],.cut [0,1,2] [] [bS 1 a36.2]] (.inl ((IntKind.wrap .i64 (a36.1+1)),a36.2)))) (.skip 3<|.done [.keep [1,3,4,12,41,42,43],.cut [0,1,2] [] [bS 1 a36.2]] (.inl ((IntKind.wrap .i64 (a36.1+1)),a36.2)))) (.skip 10<|.done [.keep [1,3,4,12,41,42,43],.cut [0,1,2] [] [bS 1 a36.2]] (.inl ((IntKind.wrap .i64 (a36.1+1)),a36.2)))) (.skip 15<|.done [.keep [1,3,4,12,41,42,43],.cut [0,1,2] [] [bS 1 a36.2]] (.inl ((IntKind.wrap .i64 (a36.1+1)),a36.2)))) (.skip 1<|.done [.keep [1,3,4,12],.cut [0,1,2] [] [bS 1 a36.2]] (.inr a36.2)))
  (fun(t49:(List (aq×ak)))=>.skip 4<|.inl [gO 1 t49]<|.fM (tN.at [1] 3 rfl) (t49,x1,x2,x4) fun(r50:(List (aq×ak)))=>.skip 2<|.inl [gO 1 r50]<|.skip 4<|.tidy [.keep [2],.cut [3] [] [bS 1 r50]]<|.inl [gO 1 r50]<|.inl [gO 1 r50]<|.fM (sR.at [3,1] 4 rfl) r50 fun(r51:(Nat×List aq))=>.skip 5<|.loop (.one (List Known)) [.keep [12,17,100,101,102],.cut [1,2,4] [] [bS 1 r50,mH 4 0 2 r51.2],.own (.s 17) 3] (fun(a:(Int×List Known))=>⟨(ap (jl 12) (ap [(.ptr 1 0 0 0)] (ap (jl 4) (ap [.sl 3 0 3 0 a.2.length] (ap (jl 82) (ap [(.sl 2 0 2 0 r51.1),(si ((r51.1:Nat):Int)),si a.1] (jl 18))))))),[(.map (List.length r50) (bZ dL dM 0 r50)),Kb,(.row 0 2 (List.map cq r51.2)),.row 0 3 (a.2.map gd)],[]⟩)
  (fun(t:(List Known))=>(.exit 2,⟨(ap (jl 17) (ap [.sl 3 0 3 0 t.length] (jl 103))),[(.map (List.length r50) (bZ dL dM 0 r50)),Kb,(.row 0 2 (List.map cq r51.2)),.row 0 3 (t.map gd)],[]⟩)) ((0:Int),[])
  (fun(a60:(Int×List Known))=>.skip 1<|.br 103 (decide (a60.1<((r51.1:Nat):Int))) (.skip 1<|.op (ic r51.1 2 2 0 a60.1) fun _=>.op (qX r51.2 cq 2 2 0 (Int.toNat a60.1) 0 fun v=>.agg (cq v)) fun x61=>.skip 10<|.op (Eo r50 x61 dL dM eU (ak.mk (0:Int) false (0:Int) (0:Int) false (0:Int)) [(.int .i64),(.int .u32)] true false 0) fun _=>.skip 3<|.op (oO (List.length a60.2) a60.2 [(Known.mk x61.bd x61.ip (Option.getD (Option.map (fun x=>x.2) (cm eU x61 r50 (0:Nat))) (ak.mk (0:Int) false (0:Int) (0:Int) false (0:Int))).qx)] gd 3 24 3 0 6 [5]) fun _=>.skip 3<|.done [.keep [12,17,100,101,102],.cut [0,1,2,3] [] [bS 0 r50,mH 2 0 2 r51.2,aP 3 1 3 (a60.2++[(Known.mk x61.bd x61.ip (Option.getD (Option.map (fun x=>x.2) (cm eU x61 r50 (0:Nat))) (ak.mk (0:Int) false (0:Int) (0:Int) false (0:Int))).qx)]) gd fun _=>rfl]] (.inl ((IntKind.wrap .i64 (a60.1+1)),(a60.2++[(Known.mk x61.bd x61.ip (Option.getD (Option.map (fun x=>x.2) (cm eU x61 r50 (0:Nat))) (ak.mk (0:Int) false (0:Int) (0:Int) false (0:Int))).qx)])))) (.skip 1<|.done [.keep [17],.cut [0,1,2,3] [] [bS 0 r50,mH 2 0 2 r51.2,Ob 3 0 3 a60.2]] (.inr a60.2)))
  (fun(t64:(List Known))=>.skip 2<|.done [.fP (ff (.s 8) 3 0 3 (List.length t64) t64 gd fun _=>rfl)] t64)))))
def rG:aA prog:=aA.of nu 10 40 (aD×Int×(List jh)×(List bt)) (fun x=>[.agg (aL x.1),si x.2.1,.aC (x.2.2.1.map lX),.aC (x.2.2.2.map cc)]) (.one (List Known)) (fun r=>.ret (.aC (r.map gd))) (fun x=>oq x.1 x.2.1 x.2.2.1 x.2.2.2) (fun x=>by kernel_rfl)
def FE(n:Nat):tu prog:=tu.apart rG (fun _=>rfl) (fun _=>rfl) n
end
end Go.L
end
section
namespace Go.L
noncomputable section
open Go.AM
def AN:dZ:={val:=fun f=> ![45,46,47,48,49,50,51,137,206,207,208,55,56,57,58,114,116,117,178,59,119,180,181,182,183,184,185,186,187,246,247,248,249,250,92,93,94,95,156,154,213,155,214,260,261,262,263,264,265,266,267,176,243,277,278,279,280,281,282,284,285,296,297,298,175,212,211,244,177,40].contains f,kill:=fun _ _=>[]}
def e_1:Entry:=⟨38,[],(sb true)⟩
theorem Rv:HR (Ap prog AN [] 2000 300) e_1=true:=by kernel_rfl
def Rw:aA prog:={f:=38,X:=Unit,args:=fun _=>[],sh:=.one Unit,out:=fun _=>.ret ((sb true)),S:=fun _ _=>some (),ok:=fun _ _ _ _=>NK (yV plainProg.mixed plainProg.names Aq.nil 2000 300) Rv}
def rV(x1:bt):G prog (Sh.El (.one Bool)):=
 .skip 5<|.op (bJ x1.A.Path (eI .u32)) fun _=>.skip 2<|.br 8 (decide ((x1.A.Path.length:Int)≤40)) (.skip 3<|.op (bJ x1.A.jE (eI .u32)) fun _=>.skip 3<|.br 15 (decide ((x1.A.jE.length:Int)≤20)) (.skip 3<|.op (bJ x1.A.fh (ki (cI .u8))) fun _=>.skip 3<|.done [] (decide ((x1.A.fh.length:Int)≤80))) (.skip 7<|.done [] false)) (.skip 14<|.done [] false)
def xK:aA prog:=aA.of AN 10 89 (bt) (fun x=>[.agg (cc x)]) (.one Bool) (fun r=>.ret (sb r)) (fun x=>rV x) (fun x=>by kernel_rfl)
def qM(x1:(List bt))(x2:Int):G prog (Sh.El (.one Bool)):=
 .skip 2<|.loop (.two (.one Unit) (.one Unit)) [.keep [0,1,5]] (fun(a:Int)=>⟨(ap [(.aC (List.map cc x1)),(si x2),.av,.av,.av,si a] (jl 16)),[],[]⟩)
  (Sum.elim (fun(_:Unit)=>(.ret,⟨(ap (jl 4) (ap [(sb false)] (jl 17))),[],[]⟩)) (fun(_:Unit)=>(.exit 0,⟨(ap [(.aC (List.map cc x1)),(si x2)] (jl 20)),[],[]⟩))) (0:Int)
  (fun(a3:Int)=>.skip 2<|.op (bJ x1 cc) fun _=>.skip 1<|.br 9 (decide (a3<(x1.length:Int))) (.skip 3<|.op (bG x1 cc 38 a3) fun x4=>.skip 1<|.call xK x4 fun(r5:Bool)=>.skip 1<|.br 17 (!r5) (.skip 2<|.done [.keep [4]] (.inr (.inl ()))) (.skip 4<|.done [.keep [0,1,5]] (.inl (IntKind.wrap .i64 (a3+1))))) (.skip 1<|.done [.keep [0,1]] (.inr (.inr ()))))
  (Sum.elim (fun _=>.done [] false) (fun _=>.skip 1<|.op (bJ x1 cc) fun _=>.skip 3<|.done [] (decide ((x1.length:Int)≤x2))))
def wj:aA prog:=aA.of AN 10 39 ((List bt)×Int) (fun x=>[.aC (x.1.map cc),si x.2]) (.one Bool) (fun r=>.ret (sb r)) (fun x=>qM x.1 x.2) (fun x=>by kernel_rfl)
def rW(x1:(List Known))(x2:(List Known)):G prog (Sh.El (.one Bool)):=
 .skip 2<|.op (bJ x1 gd) fun _=>.skip 1<|.op (bJ x2 gd) fun _=>.skip 1<|.br 10 ((x1.length:Int) != (x2.length:Int)) (.skip 2<|.done [] false) (.skip 2<|.loop (.two (.one Unit) (.one Unit)) [.keep [0,1,5]] (fun(a:Int)=>⟨(ap [(.aC (List.map gd x1)),(.aC (List.map gd x2)),.av,.av,.av,si a] (jl 20)),[],[]⟩)
  (Sum.elim (fun(_:Unit)=>(.ret,⟨(ap (jl 4) (ap [(sb false)] (jl 21))),[],[]⟩)) (fun(_:Unit)=>(.exit 0,⟨(jl 26),[],[]⟩))) (0:Int)
  (fun(a4:Int)=>.skip 2<|.op (bJ x1 gd) fun _=>.skip 1<|.br 14 (decide (a4<(x1.length:Int))) (.skip 3<|.op (bG x1 gd 3 a4) fun x5=>.skip 3<|.op (bG x2 gd 3 a4) fun x6=>.skip 2<|.br 25 (!((x5.BD==x6.BD)&&((x5.IP==x6.IP)&&((x5.bN==x6.bN)&&true)))) (.skip 2<|.done [.keep [4]] (.inr (.inl ()))) (.skip 4<|.done [.keep [0,1,5]] (.inl (IntKind.wrap .i64 (a4+1))))) (.skip 1<|.done [.keep []] (.inr (.inr ()))))
  (Sum.elim (fun _=>.done [] false) (fun _=>.skip 1<|.done [] true)))
def xL:aA prog:=aA.of AN 10 41 ((List Known)×(List Known)) (fun x=>[.aC (x.1.map gd),.aC (x.2.map gd)]) (.one Bool) (fun r=>.ret (sb r)) (fun x=>rW x.1 x.2) (fun x=>by kernel_rfl)
def ze(x1:(List Int))(x2:Int):G prog (Sh.El (.one Bool)):=
 .skip 2<|.loop (.two (.one Unit) (.one Unit)) [.keep [0,1,5]] (fun(a:Int)=>⟨(ap [(.aC (List.map (eI .i64) x1)),(si x2),.av,.av,.av,si a] (jl 12)),[],[]⟩)
  (Sum.elim (fun(_:Unit)=>(.ret,⟨(ap (jl 4) (ap [(sb true)] (jl 13))),[],[]⟩)) (fun(_:Unit)=>(.exit 0,⟨(jl 18),[],[]⟩))) (0:Int)
  (fun(a3:Int)=>.skip 2<|.op (bJ x1 (eI .i64)) fun _=>.skip 1<|.br 9 (decide (a3<(x1.length:Int))) (.skip 3<|.op (bG x1 (eI .i64) 1 a3) fun x4=>.skip 3<|.br 17 (x4==x2) (.skip 2<|.done [.keep [4]] (.inr (.inl ()))) (.skip 4<|.done [.keep [0,1,5]] (.inl (IntKind.wrap .i64 (a3+1))))) (.skip 1<|.done [.keep []] (.inr (.inr ()))))
  (Sum.elim (fun _=>.done [] true) (fun _=>.skip 1<|.done [] false))
def zf:aA prog:=aA.of AN 10 98 ((List Int)×Int) (fun x=>[.aC (x.1.map (eI .i64)),si x.2]) (.one Bool) (fun r=>.ret (sb r)) (fun x=>ze x.1 x.2) (fun x=>by kernel_rfl)
def rX(x1:aD)(x2:Int)(x3:Int)(x4:Int):G prog (Sh.El (.one Bool)):=
 .skip 5<|.br 11 (decide (x3≥0)) (.skip 3<|.op (bJ x1.au bu) fun _=>.skip 3<|.br 18 (decide (x3<(x1.au.length:Int))) (.skip 3<|.op (bG x1.au bu 2 x3) fun x5=>.skip 3<|.call zf (x5.Leaves,x2) fun(r6:Bool)=>.skip 2<|.br 28 r6 (.skip 3<|.op (bG x1.au bu 2 x3) fun x7=>.skip 3<|.call zf (x7.aI,x4) fun(r8:Bool)=>.skip 2<|.done [] r8) (.skip 10<|.done [] false)) (.skip 20<|.done [] false)) (.skip 27<|.done [] false)
def nV:aA prog:=aA.of AN 10 42 (aD×Int×Int×Int) (fun x=>[.agg (aL x.1),si x.2.1,si x.2.2.1,si x.2.2.2]) (.one Bool) (fun r=>.ret (sb r)) (fun x=>rX x.1 x.2.1 x.2.2.1 x.2.2.2) (fun x=>by kernel_rfl)
end
end Go.L
end
