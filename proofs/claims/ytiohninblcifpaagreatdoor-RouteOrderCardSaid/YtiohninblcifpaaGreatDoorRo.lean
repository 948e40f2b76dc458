/- Parts. No conditions. -/
import Derived.Test.YtiohninblcifpaaGreatDoorWx
import Derived.Test.YtiohninblcifpaaGreatDoorWr
import Derived.Test.YtiohninblcifpaaGreatDoorWf
import Derived.Test.YtiohninblcifpaaGreatDoorPLt
import Derived.Test.YtiohninblcifpaaGreatDoorPl
set_option linter.unusedSimpArgs false
set_option linter.unusedVariables false
set_option maxRecDepth 100000
section
namespace Go.L
noncomputable section
open Go.AM
def P4:eP:={val:=fun f=> ![45,46,47,48,49,50,51,137,206,207,208,55,56,57,58,114,116,117,178,59,119,180,181,182,183,184,185,186,187,246,247,248,249,250,92,93,94,95,156,154,213,155,214,260,261,262,263,264,265,266,267,176,243,277,278,279,280,281,282,284,285,296,297,298,175,212,211,244,177,16,17].contains f,kill:=fun _ _=>[]}
def uK(x1:(List aK)):G prog (Sh.El (.one (List aK))):=
 .skip 3<|.loop (.one (List aK)) [.keep [0,3,4],.cut [] [] [],.own (.s 3) 38] (fun(a:(Int×List aK))=>⟨(ap [(.av (List.map aL x1)),.aq,.aq,.sl 0 0 38 0 a.2.length,si a.1] (jl 39)),[.row 0 38 (a.2.map aL)],[]⟩)
  (fun(t:(List aK))=>(.exit 0,⟨(ap [.aq,.aq,.aq,.sl 0 0 38 0 t.length] (jl 40)),[.row 0 38 (t.map aL)],[]⟩)) ((0:Int),[])
  (fun(a10:(Int×List aK))=>.skip 2<|.op (bG x1 aL) fun _=>.skip 1<|.br 10 (decide (a10.1<(x1.length:Int))) (.skip 3<|.loop (.one Bool) [.keep [0,3,4,5,6]] (fun(a:(Bool×Int))=>⟨(ap [(.av (List.map aL x1)),.aq,.aq,(.sl 0 0 38 0 (List.length a10.2)),(si a10.1),sb a.1,si a.2] (jl 37)),[(.row 0 38 (List.map aL a10.2))],[]⟩)
  (fun(t:Bool)=>(.exit 2,⟨(ap [(.av (List.map aL x1)),.aq,.aq,(.sl 0 0 38 0 (List.length a10.2)),(si a10.1),sb t] (jl 38)),[(.row 0 38 (List.map aL a10.2))],[]⟩)) (false,(0:Int))
  (fun(a11:(Bool×Int))=>.skip 4<|.br 16 (decide (a11.2<(a10.2.length:Int))) (.skip 3<|.br 20 a11.1 (.skip 17<|.done [.keep [0,3,4,5,6]] (.inl (true,(IntKind.wrap .i64 (a11.2+1))))) (.skip 2<|.op (aM (List.length a10.2) 38 0 0 a11.2) fun _=>.skip 1<|.op (cu a10.2 aL 38 0 0 (Int.toNat a11.2) 0 fun v=>.agg (xg v.N)) fun x13=>.skip 2<|.op (cB x1 aL 38 a10.1) fun x14=>.skip 2<|.call Af (x13.N,x14.N) fun(r15:Int)=>.skip 6<|.done [.keep [0,3,4,5,6]] (.inl ((r15==0),(IntKind.wrap .i64 (a11.2+1)))))) (.skip 1<|.done [.keep [0,3,4,5]] (.inr a11.1)))
  (fun(t18:Bool)=>.skip 2<|.br 35 (!t18) (.skip 4<|.op (cB x1 aL 38 a10.1) fun x19=>.skip 2<|.op (pQ (List.length a10.2) a10.2 [x19] aL 38 224 0 0 2 [1]) fun _=>.skip 4<|.done [.keep [0,3,4],.cut [0] [] [bW 0 1 38 (a10.2++[x19]) aL fun _=>rfl]] (.inl ((IntKind.wrap .i64 (a10.1+1)),(a10.2++[x19])))) (.skip 4<|.done [.keep [0,3,4],.cut [0] [] [bW 0 0 38 a10.2 aL fun _=>rfl]] (.inl ((IntKind.wrap .i64 (a10.1+1)),a10.2))))) (.skip 1<|.done [.keep [3],.cut [0] [] [bW 0 0 38 a10.2 aL fun _=>rfl]] (.inr a10.2)))
  (fun(t23:(List aK))=>.skip 2<|.done [.gG (eR (.s 2) 0 0 38 (List.length t23) t23 aL fun _=>rfl)] t23)
def zL:aI prog:=aI.of kE 10 14 ((List aK)) (fun x=>[.av (x.map aL)]) (.one (List aK)) (fun r=>.ret (.av (r.map aL))) (fun x=>uK x) (fun x=>by kernel_rfl)
def kG(x1:(List aK)):G prog (Sh.El (.one (List aK))):=
 .skip 3<|.loop (.one (List aK)) [.keep [0,3,4],.cut [] [] [],.own (.s 3) 38] (fun(a:(Int×List aK))=>⟨(ap [(.av (List.map aL x1)),.aq,.aq,.sl 0 0 38 0 a.2.length,si a.1] (jl 15)),[.row 0 38 (a.2.map aL)],[]⟩)
  (fun(t:(List aK))=>(.exit 0,⟨(ap [.aq,.aq,.aq,.sl 0 0 38 0 t.length] (jl 16)),[.row 0 38 (t.map aL)],[]⟩)) ((0:Int),[])
  (fun(a12:(Int×List aK))=>.skip 2<|.op (bG x1 aL) fun _=>.skip 1<|.br 8 (decide (a12.1<(x1.length:Int))) (.skip 4<|.op (cB x1 aL 38 a12.1) fun x13=>.skip 1<|.call Bm x13 fun(r14:aK)=>.skip 1<|.op (pQ (List.length a12.2) a12.2 [r14] aL 38 224 0 0 2 [1]) fun _=>.skip 4<|.done [.keep [0,3,4],.cut [0] [] [bW 0 1 38 (a12.2++[r14]) aL fun _=>rfl]] (.inl ((IntKind.wrap .i64 (a12.1+1)),(a12.2++[r14])))) (.skip 1<|.done [.keep [3],.cut [0] [] [bW 0 0 38 a12.2 aL fun _=>rfl]] (.inr a12.2)))
  (fun(t17:(List aK))=>.skip 2<|.done [.keep [2],.cut [0] [] [bW 0 0 38 t17 aL fun _=>rfl]] t17)
def uL(r:List aK):aQ×List af:=(.ret (.sl 0 0 38 0 r.length),[.row 0 38 (r.map aL)])
theorem E8(x:List aK):Pb prog P4 10 16 [.av (x.map aL)] [] uL (kG x)=(kG x).fF (FD uL):=by kernel_rfl
theorem Dr(n:Nat)(l r:List aK)(h:(kG l).run n=some r):bI prog 16 [.av (l.map aL)] [] (.ret (.sl 0 0 38 0 r.length)) [.row 0 38 (r.map aL)]:=
 Md (cfg:=P4) (L:=10) (out:=uL) (g:=kG l) (n:=n) (r:=r) plainProg.mixed plainProg.names (by rw[E8];exact G.bR (fun _=>rfl) _) h
def zM(n:Nat):tB prog:=tB.fresh prog 16 (List aK) (fun x=>[.av (x.map aL)]) aK 38 aL (fun _=>rfl) (fun _=>rfl) (fun n x=>(kG x).run n) (fun n x r h=>Dr n x r h) n
def sJ(x1:(List Int))(x2:Int)(x3:(List Bool))(x4:(List aK))(x5:Int):G prog (Sh.El (.one Bool)):=
 .skip 1<|.call ya () fun(r6:Bool)=>.skip 1<|.br 21 (!r6) (.skip 2<|.done [] false) (.skip 2<|.call zG x4 fun(r8:Bool)=>.skip 1<|.br 24 r8 (.skip 11<|.done [] true) (.skip 1<|.op (bG x1 (eI .i64)) fun _=>.skip 3<|.br 29 (decide ((x1.length:Int)>200)) (.skip 6<|.done [] true) (.skip 1<|.op (bG x3 eB) fun _=>.skip 2<|.br 33 (decide ((x3.length:Int)>80)) (.skip 2<|.done [] true) (.skip 2<|.call Df x1 fun(r12:aG)=>.skip 3<|.call zL x4 fun(r13:(List aK))=>.skip 3<|.op (bG r13 aL) fun _=>.skip 1<|.call Gp (x5,(IntKind.wrap .i64 ((r13.length:Int)+1))) fun(r14:Int)=>.skip 3<|.op (BK r13 aL 38 (some r14) none) fun x15=>.cM (zM 2) ((List.drop x15.1 (List.take x15.2 r13))) fun(r16:(List aK))=>.skip 2<|.op (BK r13 aL 38 none (some r14)) fun x17=>.op (pQ (List.length r16) r16 (List.drop x17.1 (List.take x17.2 r13)) aL 38 224 2 0 1 []) fun _=>.skip 3<|.op (bG r13 aL) fun _=>.skip 2<|.loop (.one (List aK)) [.keep [1,2,11,12,14,15,16],.cut [0,2] [] [bW 2 1 38 (r16++(List.drop x17.1 (List.take x17.2 r13))) aL fun _=>rfl],.own (.s 15) 38] (fun(a:(Int×List aK))=>⟨(ap [.aq,(si x2),(.av (List.map eB x3))] (ap (jl 8) (ap [(.ptr 0 0 0 0),(.av (List.map aL r13)),.aq,(.sl 1 0 38 0 (List.length (r16++(List.drop x17.1 (List.take x17.2 r13))))),.sl 2 0 38 0 a.2.length,si a.1] (jl 117)))),[.row 0 19 [bu r12],(.row 0 38 (List.map aL (r16++(List.drop x17.1 (List.take x17.2 r13))))),.row 0 38 (a.2.map aL)],[]⟩)
  (fun(t:(List aK))=>(.exit 0,⟨(ap [.aq,(si x2),(.av (List.map eB x3))] (ap (jl 8) (ap [(.ptr 0 0 0 0),(.av (List.map aL r13)),.aq,(.sl 1 0 38 0 (List.length (r16++(List.drop x17.1 (List.take x17.2 r13))))),.sl 2 0 38 0 t.length] (jl 118)))),[.row 0 19 [bu r12],(.row 0 38 (List.map aL (r16++(List.drop x17.1 (List.take x17.2 r13))))),.row 0 38 (t.map aL)],[]⟩)) ((IntKind.wrap .i64 ((r13.length:Int) - 1)),[])
  (fun(a26:(Int×List aK))=>.skip 2<|.br 55 (decide (a26.1≥0)) (.skip 4<|.op (cB r13 aL 38 a26.1) fun x27=>.skip 2<|.op (pQ (List.length a26.2) a26.2 [x27] aL 38 224 2 0 4 [3]) fun _=>.skip 4<|.done [.keep [1,2,11,12,14,15,16],.cut [0,1,2] [] [bW 1 0 38 (r16++(List.drop x17.1 (List.take x17.2 r13))) aL fun _=>rfl,bW 2 1 38 (a26.2++[x27]) aL fun _=>rfl]] (.inl ((IntKind.wrap .i64 (a26.1 - 1)),(a26.2++[x27])))) (.skip 1<|.done [.keep [1,2,11,12,14,15],.cut [0,1,2] [] [bW 1 0 38 (r16++(List.drop x17.1 (List.take x17.2 r13))) aL fun _=>rfl,bW 2 0 38 a26.2 aL fun _=>rfl]] (.inr a26.2)))
  (fun(t30:(List aK))=>.skip 4<|.cM (Io 3) (r12,x2,x3,r13) fun(r31:(List aF))=>.skip 2<|.loop (.two (.one Unit) (.one Unit)) [.keep [1,2,11,14,15,17,18]] (fun(a:Int)=>⟨(ap [.aq,(si x2),(.av (List.map eB x3))] (ap (jl 8) (ap [(.ptr 0 0 0 0),.aq,.aq,(.sl 1 0 38 0 (List.length (r16++(List.drop x17.1 (List.take x17.2 r13))))),(.sl 2 0 38 0 (List.length t30)),.aq,(.av (List.map dz r31)),si a] (jl 115)))),[.row 0 19 [bu r12],(.row 0 38 (List.map aL (r16++(List.drop x17.1 (List.take x17.2 r13))))),(.row 0 38 (List.map aL t30))],[]⟩)
  (Sum.elim (fun(_:Unit)=>(.ret,⟨(ap (jl 10) (ap [(sb false)] (jl 123))),[.row 0 19 [bu r12],(.row 0 38 (List.map aL (r16++(List.drop x17.1 (List.take x17.2 r13))))),(.row 0 38 (List.map aL t30))],[]⟩)) (fun(_:Unit)=>(.exit 2,⟨(ap [.aq,(si x2),(.av (List.map eB x3))] (ap (jl 8) (ap [(.ptr 0 0 0 0),.aq,.aq,(.sl 1 0 38 0 (List.length (r16++(List.drop x17.1 (List.take x17.2 r13))))),(.sl 2 0 38 0 (List.length t30)),.aq,(.av (List.map dz r31))] (jl 116)))),[.row 0 19 [bu r12],(.row 0 38 (List.map aL (r16++(List.drop x17.1 (List.take x17.2 r13))))),(.row 0 38 (List.map aL t30))],[]⟩))) (1:Int)
  (fun(a32:Int)=>.skip 2<|.op (bG r31 dz) fun _=>.skip 1<|.br 73 (decide (a32<(r31.length:Int))) (.skip 4<|.op (cB r31 dz 8 (IntKind.wrap .i64 (a32 - 1))) fun x33=>.skip 4<|.op (cB r31 dz 8 a32) fun x34=>.skip 2<|.call qe (x33.ah,x34.ah) fun(r35:Int)=>.skip 4<|.op (cB r31 dz 8 (IntKind.wrap .i64 (a32 - 1))) fun x36=>.skip 4<|.op (cB r31 dz 8 a32) fun x37=>.skip 4<|.br 100 (decide (x36.au>x37.au)) (.skip 19<|.done [.keep [10]] (.inr (.inl ()))) (.skip 3<|.op (cB r31 dz 8 (IntKind.wrap .i64 (a32 - 1))) fun x39=>.skip 4<|.op (cB r31 dz 8 a32) fun x40=>.skip 4<|.br 113 (x39.au==x40.au) (.skip 4<|.br 117 (decide (r35≥0)) (.skip 2<|.done [.keep [10]] (.inr (.inl ()))) (.skip 4<|.done [.keep [1,2,11,14,15,17,18]] (.inl (IntKind.wrap .i64 (a32+1))))) (.skip 8<|.done [.keep [1,2,11,14,15,17,18]] (.inl (IntKind.wrap .i64 (a32+1)))))) (.skip 1<|.done [.keep [1,2,11,14,15,17]] (.inr (.inr ()))))
  (Sum.elim (fun _=>.done [] false) (fun _=>.skip 4<|.aC td 1 0 [] ((r16++(List.drop x17.1 (List.take x17.2 r13))),r12,x2,x3,(List.length (r16++(List.drop x17.1 (List.take x17.2 r13))))) fun(r48:(List aF))=>.skip 1<|.call tf (r48,r31) fun(r49:Bool)=>.skip 1<|.br 125 r49 (.skip 4<|.aC td 2 0 [] (t30,r12,x2,x3,(List.length t30)) fun(r50:(List aF))=>.skip 1<|.call tf (r50,r31) fun(r51:Bool)=>.skip 2<|.done [] r51) (.skip 9<|.done [] false))))))))
def xO:aI prog:=aI.of P4 10 3 ((List Int)×Int×(List Bool)×(List aK)×Int) (fun x=>[.av (x.1.map (eI .i64)),si x.2.1,.av (x.2.2.1.map eB),.av (x.2.2.2.1.map aL),si x.2.2.2.2]) (.one Bool) (fun r=>.ret (sb r)) (fun x=>sJ x.1 x.2.1 x.2.2.1 x.2.2.2.1 x.2.2.2.2) (fun x=>by kernel_rfl)
end
end Go.L
end
section
namespace Go.L
open Go.AM
theorem GZ(n:Nat)(x y:Int):At (ey.S n (x,y)) (fun(r:Int)=>r=cH x y):=by
 refine(?_ :cz n (vN x y) _);unfold vN cH;refine .skip (.br (fun h=>.skip (.done rfl ?_)) fun h=>.skip (.br (fun h2=>.skip (.done rfl ?_)) fun h2=>.skip (.done rfl ?_)))
 all_goals (simp only[decide_eq_true_eq,decide_eq_false_iff_not]at*)
 ·rw[if_pos h]
 ·rw[if_neg h,if_pos h2]
 ·rw[if_neg h,if_neg h2]
theorem P5(n:Nat)(x y:Int):At (jk.S n (x,y)) (fun(r:Int)=>r=cH x y):=by
 refine(?_ :cz n (vM x y) _);unfold vM cH;refine .skip (.br (fun h=>.skip (.done rfl ?_)) fun h=>.skip (.br (fun h2=>.skip (.done rfl ?_)) fun h2=>.skip (.done rfl ?_)))
 all_goals (simp only[decide_eq_true_eq,decide_eq_false_iff_not]at*)
 ·rw[if_pos h]
 ·rw[if_neg h,if_pos h2]
 ·rw[if_neg h,if_neg h2]
theorem HS(x:Int):cH x x=0:=(rZ x x).2 rfl
theorem Gs(n:Nat)(x y:ah):At (qe.S n (x,y)) (fun(r:Int)=>r=dX [IntKind.wrap .i64 x.IP,x.Len] [IntKind.wrap .i64 y.IP,y.Len]):=by
 refine(?_ :cz n (qd x y) _);unfold qd;refine .skip (.call _ (GZ n _ _) fun(r:Int) hr=>.skip (.br (fun h=>.skip (.call _ (GZ n _ _) fun(s:Int) hs=>.skip (.done rfl ?_))) fun h=>.skip (.done rfl ?_)))
 ·simp only[beq_iff_eq]at h;rw[hs];unfold dX;rw[if_pos (by rw[← hr];exact h)];unfold dX
  split
  ·rename_i h0;rw[h0];rfl
  ·rfl
 ·rw[beq_eq_false_iff_ne]at h;unfold dX;rw[if_neg (by rw[← hr];exact h)];exact hr
theorem Q9(n:Nat)(x y:cA Int):At (xN.S n (x,y)) (fun(r:Int)=>x=y→r=0):=by
 refine(?_ :cz n (sI x y) _);unfold sI;refine .skip (.gH ?_);have st:∀(g:cA Int→Int) {k:Int→G prog Int},(∀r:Int,(x=y→r=0)→cz n (k r) (fun(r:Int)=>x=y→r=0))→cz n (.call ey (IntKind.wrap .i64 (g x),IntKind.wrap .i64 (g y)) k) (fun(r:Int)=>x=y→r=0):=fun g k hk=>
  .call _ (GZ n _ _) fun r hr=>hk r fun e=>by rw[hr,e];exact HS _
 have br:∀(r:Int) {d:Tmp} {k:G prog Int},(x=y→r=0)→cz n k (fun(r:Int)=>x=y→r=0)→cz n (.br d (r != (0:Int)) (.skip 3<|.done [] r) k) (fun(r:Int)=>x=y→r=0):=fun r d k h hk=>.br (fun _=>.skip (.done rfl h)) fun _=>hk
 refine .skip (st (·.a0) fun r h=>.skip (br r h (.skip (st (·.a1) fun r h=>.skip (br r h (.skip (st (·.a2) fun r h=>.skip (br r h (.skip (st (·.a3) fun r h=>.skip (br r h (.skip (st (·.a4) fun r h=>.skip (br r h (.skip (st (·.a5) fun r h=>.skip (br r h (.skip (st (·.a6) fun r h=>.skip (br r h (.skip (st (·.a7) fun r h=>.skip (br r h (.skip (st (·.a8) fun r h=>.skip (br r h (.skip (st (·.a9) fun r h=>.skip (br r h (.skip (.done rfl fun _=>rfl)))))))))))))))))))))))))))))))
theorem Lt(n:Nat)(x:eE):At (AK.S n x) (fun(r:eE)=>r=wJ x):=by
 refine(?_ :cz n (AJ x) _);unfold AJ wJ;refine .skip (.br (fun h=>.skip (.br (fun h2=>.skip (.done rfl ?_)) fun h2=>.skip (.done rfl ?_))) fun h=>.skip (.br (fun h2=>.skip (.br (fun h3=>.skip (.done rfl ?_)) fun h3=>?_)) fun h2=>.skip (.br (fun h3=>?_) fun h3=>.skip (.done rfl ?_))))
 all_goals (simp only[beq_iff_eq,beq_eq_false_iff_ne]at*)
 ·rw[if_pos h2];rfl
 ·rw[if_neg h2,if_pos h];rfl
 ·rw[if_pos h3];rfl
 ·exact absurd h2 h3
 ·exact absurd h3 h2
 ·rw[if_neg h2,if_neg h]
theorem Oy{a b:eE}(h:qD a=qD b):a.Kind=b.Kind∧a.RD=b.RD∧a.aA=b.aA∧a.Tag=b.Tag∧a.bO=b.bO∧a.dG=b.dG∧a.IP=b.IP∧a.ah=b.ah∧a.aS=b.aS:=by
 unfold qD qC at h;simp only[List.cons_append,List.nil_append,List.cons.injEq,and_true,Pm]at h;obtain⟨h1,h2,e0,e1,e2,e3,e4,e5,e6,e7,e8,e9,h3,h4,h5,h6,h7,h8,h9⟩:=h;refine⟨h1,h2,?_,h3,h4,h5,h6,?_,h9⟩
 ·cases ha:a.aA;cases hb:b.aA;rw[ha,hb]at e0 e1 e2 e3 e4 e5 e6 e7 e8 e9;simp only at e0 e1 e2 e3 e4 e5 e6 e7 e8 e9;subst e0 e1 e2 e3 e4 e5 e6 e7 e8 e9;rfl
 ·cases ha:a.ah;cases hb:b.ah;rw[ha,hb]at h7 h8;simp only at h7 h8;subst h7 h8;rfl
theorem MZ(n:Nat)(a b:eE):At (Af.S n (a,b)) (fun(r:Int)=>nh a b=0→r=0):=by
 refine(?_ :cz n (vO a b) _);unfold vO;refine .skip (.call _ (Lt n a) fun k hk=>.skip (.call _ (Lt n b) fun l hl=>?_))
 have key:nh a b=0→k.Kind=l.Kind∧k.RD=l.RD∧k.aA=l.aA∧k.Tag=l.Tag∧k.bO=l.bO∧k.dG=l.dG∧k.IP=l.IP∧k.ah=l.ah∧k.aS=l.aS:=fun h=>by
  rw[hk,hl];exact Oy ((HC a b).1 h)
 have num:∀x:Bool,At (wP.S n x) (fun(r:Int)=>r=C0 x):=fun x=>by
  refine(?_ :cz n (wO x) _);unfold wO;exact .skip (.br (fun h=>.skip (.done rfl (by rw[h];rfl))) fun h=>.skip (.done rfl (by rw[h];rfl)))
 have st4:∀(u v:Int) {kk:Int→G prog Int},(nh a b=0→u=v)→(∀r:Int,(nh a b=0→r=0)→cz n (kk r) (fun(r:Int)=>nh a b=0→r=0))→cz n (.call jk (u,v) kk) (fun(r:Int)=>nh a b=0→r=0):=fun u v kk he hk=>
  .call _ (P5 n _ _) fun r hr=>hk r fun e=>by rw[hr,he e];exact HS _
 have end_:∀(r:Int),(nh a b=0→r=0)→∀m,cz n (.skip m<|.done [] r:G prog Int) (fun(r:Int)=>nh a b=0→r=0):=fun r h m=>.skip (.done rfl h)
 refine .skip (.br (fun h=>.skip (.done rfl fun e=>?_)) fun _=>.skip (.br (fun h=>.skip (.done rfl fun e=>?_)) fun _=>.skip ?_))
 ·simp only[decide_eq_true_eq]at h;have:=(key e).1;omega
 ·simp only[decide_eq_true_eq]at h;have:=(key e).1;omega
 have no:∀(r:Int) {d:Tmp} {t f:G prog Int},(r==(0:Int))=false→cz n f (fun(r:Int)=>nh a b=0→r=0)→cz n (.br d (r==(0:Int)) t f) (fun(r:Int)=>nh a b=0→r=0):=fun r d t f h hf=>.br (fun h2=>by rw[h]at h2;cases h2) fun _=>hf
 refine st4 _ _ (fun e=>(key e).2.1) fun r7 h7=>.skip (.br (fun _=>.skip (.call _ (Q9 n _ _) fun(r8:Int) h8=>?_)) fun g=>.skip (no _ g (.skip (no _ g (.skip (no _ g (.skip (no _ g (.skip (no _ g (.skip (no _ g (.skip (.done rfl h7))))))))))))))
 have h8:nh a b=0→r8=0:=fun e=>h8 (key e).2.2.1
 refine .skip (.br (fun _=>.skip (st4 _ _ (fun e=>by rw[(key e).2.2.2.1]) fun r9 h9=>?_)) fun g=>.skip (no _ g (.skip (no _ g (.skip (no _ g (.skip (no _ g (.skip (no _ g (.skip (.done rfl h8))))))))))))
 refine .skip (.br (fun _=>.skip (st4 _ _ (fun e=>(key e).2.2.2.2.1) fun r10 h10=>?_)) fun g=>.skip (no _ g (.skip (no _ g (.skip (no _ g (.skip (no _ g (.skip (.done rfl h9))))))))))
 refine .skip (.br (fun _=>.skip (.call _ (num _) fun u hu=>.skip (.call _ (num _) fun v hv=>st4 _ _ (fun e=>by rw[hu,hv,(key e).2.2.2.2.2.1]) fun r13 h13=>?_))) fun g=>.skip (no _ g (.skip (no _ g (.skip (no _ g (.skip (.done rfl h10))))))))
 refine .skip (.br (fun _=>.skip (st4 _ _ (fun e=>by rw[(key e).2.2.2.2.2.2.1]) fun r14 h14=>?_)) fun g=>.skip (no _ g (.skip (no _ g (.skip (.done rfl h13))))))
 refine .skip (.br (fun _=>.skip (.call _ (Gs n _ _) fun(r15:Int) h15=>?_)) fun g=>.skip (no _ g (.skip (.done rfl h14))))
 have h15:nh a b=0→r15=0:=fun e=>by rw[h15,(key e).2.2.2.2.2.2.2.1];exact(l7 rfl).2 rfl
 refine .skip (.br (fun _=>.skip (st4 _ _ (fun e=>by rw[(key e).2.2.2.2.2.2.2.2]) fun r16 h16=>.skip (.done rfl h16))) fun g=>.skip (.done rfl h15))
end Go.L
end
section
namespace Go.L
open Go.AM
def zN(l:List aK):Prop:=∀r∈l,∀r'∈l,nh r.N r'.N=0→r=r'
theorem zN.add{l:List aK}{x:aK}(h:zN l)(hx:∀y∈l,nh y.N x.N≠0):zN (l++[x]):=fun r hr r' hr' e=>by
 rcases List.mem_append.1 hr with q |q<;>rcases List.mem_append.1 hr' with q' |q'
 ·exact h r q r' q' e
 ·simp only[List.mem_singleton]at q';subst q';exact absurd e (hx r q)
 ·simp only[List.mem_singleton]at q;subst q;exact absurd (by have:=NT r.N r'.N;omega) (hx r' q')
 ·simp only[List.mem_singleton]at q q';rw[q,q']
theorem Sd{α:Type}{l:List α}{i:Int}{x:α}(h:jd l i=some x):0≤i∧i<(l.length:Int)∧l[i.toNat]? =some x:=by
 unfold jd at h;split at h
 ·rename_i h0;obtain⟨h1,_⟩:=List.getElem?_eq_some_iff.1 h;exact⟨by simpa using h0,by omega,h⟩
 ·cases h
theorem KV(n:Nat)(hn:5000≤n)(rs:List aK)(hr:MR rs):At (zL.S n rs) (fun(D:List aK)=>D.length≤rs.length∧(∀r∈D,r∈rs)∧zN D):=by
 refine(?_ :cz n (uK rs) _);unfold uK;have h60:=hr.len;refine .skip (.loop (fun a=>ep rs (fun pre (out:List aK)=>out.length≤pre.length∧(∀r∈out,r∈pre)∧zN out) a) (fun a=>rs.length - a.1.toNat) (fun(D:List aK)=>D.length≤rs.length∧(∀r∈D,r∈rs)∧zN D) rfl (ep.start ⟨Nat.le_refl _,fun _ h=>h,fun _ h=>(by cases h)⟩) (by simp;omega) (fun a ha=>?_) (fun t ht=>.skip (.done (by simp only[aZ,eR,Bool.and_true];exact decide_eq_true (List.length_map ..).symm) ht)))
 refine .skip (.op () rfl (.skip (.br (fun h=>?_) fun h=>.skip (.done rfl (ha.fin h)))))
 obtain⟨x,pre,h1,h2,⟨p1,p2,p3⟩,⟨h0,post,hpost⟩,h4⟩:=ha.get h;have hpl:pre.length<rs.length:=by rw[hpost];simp
 refine .skip (.loop (fun b:Bool×Int=>ep a.2 (fun q (c:Bool)=>∀y∈q,nh y.N x.N=0→c=true) (b.2,b.1)) (fun b=>a.2.length - b.2.toNat) (fun(c:Bool)=>∀y∈a.2,nh y.N x.N=0→c=true) rfl (ep.start fun _ h=>(by cases h)) (by simp;omega) (fun b hb=>?_) (fun t ht=>?_))
 ·refine .skip (.br (fun g=>?_) fun g=>.skip (.done rfl (hb.fin g)))
  obtain⟨y,q,g1,g2,g3,_,g4⟩:=hb.get g;obtain⟨i0,i1,i2⟩:=Sd g1;refine .skip (.br (fun hc=>.skip (.done rfl (g4 (by omega) true fun _ _ _=>rfl))) fun hc=>.skip (.op () (if_pos ⟨i0,i1⟩) (.skip (.op y i2 (.skip (.op x h1 (.skip (.call _ (MZ n _ _) fun r15 h15=>.skip (.done rfl (g4 (by omega) _ ?_))))))))))
  intro z hz e;rcases List.mem_append.1 hz with hz |hz
  ·have e2:b.1=true:=g3 z hz e;rw[e2]at hc;cases hc
  ·simp only[List.mem_singleton]at hz;subst hz;rw[h15 e];rfl
 ·refine .skip (.br (fun hc=>.skip (.op x h1 (.skip (.op () (if_pos ⟨rfl,by simp[roomy];omega⟩) (.skip (.done rfl (h4 (by omega) _ ⟨?_,fun r hr=>?_,p3.add fun y hy e=>?_⟩))))))) fun hc=>.skip (.done rfl (h4 (by omega) _ ⟨?_,fun r hr=>?_,p3⟩)))
  ·simp only[List.length_append,List.length_singleton];omega
  ·rcases List.mem_append.1 hr with hr |hr
   ·exact List.mem_append_left _ (p2 r hr)
   ·exact List.mem_append_right _ hr
  ·rw[ht y hy e]at hc;cases hc
  ·simp only[List.length_append,List.length_singleton];omega
  ·exact List.mem_append_left _ (p2 r hr)
theorem Ra(n:Nat)(l:List Int)(h:l.length≤20):At (zJ.S n l) (fun(r:List Int)=>r=l):=by
 refine(?_ :cz n (uJ l) _);unfold uJ;exact .skip (.op () (if_pos ⟨rfl,by simp[roomy];omega⟩) (.skip (.done (by simp only[aZ,eR,Bool.and_true];exact decide_eq_true (List.length_map ..).symm) rfl)))
theorem Se(n:Nat)(l:List Int)(h:l.length≤20):At (Dq.S n l) (fun(r:List Int)=>r=l):=by
 refine(?_ :cz n (zK l) _);unfold zK;exact .skip (.op () (if_pos ⟨rfl,by simp[roomy];omega⟩) (.skip (.done (by simp only[aZ,eR,Bool.and_true];exact decide_eq_true (List.length_map ..).symm) rfl)))
theorem P6(n:Nat)(l:List (V8 Int))(h:l.length≤20):At (Bk.S n l) (fun(r:List (V8 Int))=>r=l):=by
 refine(?_ :cz n (wQ l) _);unfold wQ;exact .skip (.op () (if_pos ⟨rfl,by simp[roomy];omega⟩) (.skip (.done (by simp only[aZ,eR,Bool.and_true];exact decide_eq_true (List.length_map ..).symm) rfl)))
theorem Oz(n:Nat)(r:aK)(h1:r.A.Path.length≤20)(h2:r.A.nL.length≤20)(h3:r.A.dy.length≤20):At (Bm.S n r) (fun(x:aK)=>x=r):=by
 refine(?_ :cz n (wS r) _);unfold wS;have ha:At (Bl.S n r.A) (fun(x:xh)=>x=r.A):=by
  refine(?_ :cz n (wR r.A) _);unfold wR;refine .skip (.call _ (Ra n _ h1) fun p hp=>.skip (.call _ (Se n _ h2) fun c hc=>.skip (.call _ (P6 n _ h3) fun q hq=>.skip (.done rfl ?_))))
  rw[hp,hc,hq]
 refine .skip (.call _ ha fun x hx=>.skip (.done rfl ?_))
 rw[hx]
theorem M0(m n:Nat)(hn:5000≤n)(rs:List aK)(hr:MR rs):At ((zM m).S n rs) (fun(r:List aK)=>r=rs):=by
 refine(?_ :cz n (kG rs) _);unfold kG;have h60:=hr.len;refine .skip (.loop (fun a=>ep rs (fun pre (out:List aK)=>out=pre) a) (fun a=>rs.length - a.1.toNat) (fun(r:List aK)=>r=rs) rfl (ep.start rfl) (by simp;omega) (fun a ha=>?_) (fun t ht=>.skip (.done rfl ht)))
 refine .skip (.op () rfl (.skip (.br (fun h=>?_) fun h=>.skip (.done rfl (ha.fin h)))))
 obtain⟨x,pre,h1,h2,p1,⟨h0,post,hpost⟩,h4⟩:=ha.get h;have hpl:pre.length<rs.length:=by rw[hpost];simp
 refine .skip (.op x h1 (.skip (.call _ (Oz n x (hr.path x h2) (hr.RX x h2) (hr.comms x h2)) fun y hy=>.skip (.op () (if_pos ⟨rfl,by rw[p1];show roomy (pre.length+1) 224=true;simp[roomy];omega⟩) (.skip (.done rfl (h4 (by omega) _ ?_)))))))
 rw[p1,hy]
def Qt(r:aK):Prop:=(0≤r.N.IP∧r.N.IP<4294967296)∧(0≤r.N.ah.IP∧r.N.ah.IP<4294967296)
def Ke(p:ah):Prop:=0≤p.IP∧p.IP<4294967296
theorem Rb{f:aG}(hv:Vf f){leaf:Int}{up:List Bool}{rs:List aK}{K:jT}(hr:∀r∈rs,Qt r){c:ai}(h:c∈iK f leaf up K rs):Ke c.aF.ah:=by
 unfold iK at h;rcases List.mem_append.1 h with h |h
 ·obtain⟨i,d,h1,h2,_,rfl⟩:=xI h;have hb:=hv.bd i d h1;have hl:=hv.sA;obtain⟨hi,_⟩:=List.getElem?_eq_some_iff.1 h1;show 0≤d.bt.IP∧d.bt.IP<4294967296;rcases hb.2.2.2.2 with⟨e,_⟩ |⟨e,_⟩<;>rw[e]<;>simp only<;>omega
 ·obtain⟨r,hr0,h⟩:=List.mem_flatMap.1 h;obtain⟨T,_,t,_,h |h⟩:=yB h
  ·rw[Ke,(xu h.2).2.2.2];exact(hr r hr0).1
  ·rw[Ke,(yA h.2.2).2.2.2];exact(hr r hr0).2
theorem Rc{f:aG}(hv:Vf f){leaf:Int}{up:List Bool}{rs:List aK}{K:jT}(hr:∀r∈rs,Qt r){x:aF}(h:x∈rG f leaf up rs K):Ke x.ah:=by
 have own:∀y∈oc (tr f leaf up K rs),Ke y.ah:=fun y hy=>by
  obtain⟨c,hc,e⟩:=QW hy;rw[← e];exact Rb hv hr hc
 rcases N5 _ _ _ x (Px.1 h)with h |⟨k,hk,y,hy,_,_,rfl⟩
 ·exact own x h
 ·exact own y hy
theorem P7{f:aG}(hv:Vf f){i j:Nat}{d e:BD}(h1:f.aR[i]? =some d)(h2:f.aR[j]? =some e)(g1:d.aS≠0)(g2:e.aS≠0)(hp:d.bt=e.bt):i=j:=by
 obtain⟨-,-,-,-,q1⟩:=hv.bd i d h1;obtain⟨-,-,-,-,q2⟩:=hv.bd j e h2;rcases q1 with q1 |q1
 ·exact absurd q1.2 g1
 rcases q2 with q2 |q2
 ·exact absurd q2.2 g2
 rw[q1.1,q2.1]at hp;simp only[ah.mk.injEq]at hp;omega
theorem P8{f:aG}(hv:Vf f):Lm f:=fun i j d e h1 h2 g1 g2 _ hp=>P7 hv h1 h2 g1 g2 hp
theorem HT(n:Nat)(f:aG)(hv:Vf f)(self:Int)(up:List Bool){D D':List aK}(hd:zN D)(h:∀r,r∈D↔r∈D'):rH n f self up D'=rH n f self up D:=by
 unfold rH;split
 ·exact(Mw f self up D D' _ (Mx f self up D _ (P8 hv) hd) h).symm
 ·rfl
theorem Re(n:Nat)(f:aG)(self:Int)(up:List Bool)(rs:List aK):(rH n f self up rs).Pairwise (fun a b=>tI a b):=by
 unfold rH;split
 ·exact Pw _ _ _ _ _
 ·exact List.Pairwise.nil
theorem Sf(n:Nat)(f:aG)(hv:Vf f)(self:Int)(up:List Bool)(rs:List aK)(hr:∀r∈rs,Qt r):∀x∈rH n f self up rs,Ke x.ah:=fun x hx=>by
 unfold rH at hx;split at hx
 ·exact Rc hv hr hx
 ·cases hx
end Go.L
end
section
namespace Go.L
open Go.AM
theorem MR.sub{rs l:List aK}(h:MR rs)(hs:∀r∈l,r∈rs)(hl:l.length≤60):MR l:=
 ⟨hl,fun r hr=>h.comms r (hs r hr),fun r hr=>h.path r (hs r hr),fun r hr=>h.RX r (hs r hr)⟩
theorem Ip(n:Nat)(hn:5000≤n)(HL:At (ya.S n ()) (fun(b:Bool)=>b=true))(nums:List Int)(self:Int)(up:List Bool)(rs:List aK)(turn:Int)(hin:∀r∈rs,Qt r):At (xO.S n (nums,self,up,rs,turn)) (fun(b:Bool)=>b=true):=by
 refine(?_ :cz n (sJ nums self up rs turn) _);unfold sJ;refine .skip (.call _ HL fun r5 h5=>.skip (.br (fun h=>by rw[h5]at h;cases h) fun _=>.skip (.call _ (Q2 n hn rs) fun r7 h7=>.skip (.br (fun _=>.skip (.done rfl rfl)) fun hm=>.skip (.op () rfl (.skip (.br (fun _=>.skip (.done rfl rfl)) fun _=>.skip (.op () rfl (.skip (.br (fun _=>.skip (.done rfl rfl)) fun _=>?_))))))))))
 have hr:MR rs:=h7 hm;have h60:=hr.len;refine .skip (.call Vf (J8 nums hn) fun f hv=>.skip (.call _ (KV n hn rs hr) fun(D:List aK) hD=>?_))
 obtain⟨d1,d2,d3⟩:=hD;have dl:D.length≤60:=Nat.le_trans d1 h60;have hDr:MR D:=hr.sub d2 dl;have e1:IntKind.wrap .i64 (((D.length:Nat):Int)+1)=((D.length:Nat):Int)+1:=wrap_i64 (by omega) (by omega)
 refine .skip (.op () rfl (.skip (.call _ (Q4 n turn _ (by rw[e1];omega) (by rw[e1];omega)) fun(k:Int) hk=>?_)))
 rw[e1]at hk;obtain⟨k0,k1⟩:=hk;have s1:(BK D Go.L.aL 38 (some k) none).run=some (k.toNat,D.length):=by
  simp only[BK,vp,Option.bind_some];rw[if_pos ⟨k0,by omega⟩];rfl
 have s2:(BK D Go.L.aL 38 none (some k)).run=some (0,k.toNat):=by
  simp only[BK,vp];rw[if_pos ⟨k0,by omega⟩];rfl
 have l1:(List.drop k.toNat (List.take (D.length) D)).length≤60:=by simp;omega
 have m1:∀r∈List.drop k.toNat (List.take (D.length) D),r∈rs:=fun r h=>d2 r (List.mem_of_mem_take (List.mem_of_mem_drop h))
 refine .skip (.op _ s1 (.cM _ (M0 2 n hn _ (hr.sub m1 l1)) fun(O1:List aK) hO1=>.skip (.op _ s2 ?_)))
 have hol:(O1++List.drop 0 (List.take k.toNat D)).length=D.length:=by rw[hO1];simp;omega
 have hom:∀r,r∈D↔r∈O1++List.drop 0 (List.take k.toNat D):=fun r=>by
  rw[hO1,List.take_length,List.drop_zero,List.mem_append,or_comm,← List.mem_append,List.take_append_drop]
 generalize hO2:List.drop 0 (List.take k.toNat D)=O2 at hol hom;rw[List.length_append]at hol;have hDo:MR (O1++O2):=hr.sub (fun r h=>d2 r ((hom r).2 h)) (by rw[List.length_append];omega)
 refine .op () (if_pos ⟨rfl,by show roomy (List.length O1+List.length O2) 224=true;simp[roomy];omega⟩) (.skip (.op () rfl (.skip ?_)))
 have e2:IntKind.wrap .i64 (((D.length:Nat):Int) - 1)=((D.length:Nat):Int) - 1:=wrap_i64 (by omega) (by omega)
 refine .loop (fun a:Int×List aK=>∃j:Nat,a.1=(j:Int) - 1∧j≤D.length∧a.2=(List.drop j D).reverse) (fun a=>(a.1+1).toNat) (fun(t:List aK)=>t=D.reverse) rfl ⟨D.length,e2,Nat.le_refl _,by simp⟩ (by show(IntKind.wrap .i64 (((D.length:Nat):Int) - 1)+1).toNat<n;rw[e2];omega) (fun a ha=>?_) (fun t30 ht30=>?_)
 ·obtain⟨j,j1,j2,j3⟩:=ha;refine .skip (.br (fun h=>?_) fun h=>.skip (.done rfl ?_))
  ·simp only[ge_iff_le,decide_eq_true_eq]at h;obtain⟨i,rfl⟩:∃i,j=i+1:=⟨j - 1,by omega⟩
   have hi:i<D.length:=by omega
   have hx:jd D a.1=some (D[i]):=by
    rw[show a.1=((i:Nat):Int)by omega,cK,List.getElem?_eq_getElem hi]
   have hal:a.2.length≤60:=by rw[j3];simp;omega
   refine .skip (.op _ hx (.skip (.op () (if_pos ⟨rfl,by show roomy (a.2.length+1) 224=true;simp[roomy];omega⟩) (.skip (.done rfl ⟨⟨i,?_,by omega,?_⟩,?_⟩)))))
   ·show IntKind.wrap .i64 (a.1 - 1)=_;rw[wrap_i64 (by omega) (by omega)];omega
   ·show a.2++[D[i]]=_;rw[j3,List.drop_eq_getElem_cons hi,List.reverse_cons]
   ·show(IntKind.wrap .i64 (a.1 - 1)+1).toNat<(a.1+1).toNat;rw[wrap_i64 (by omega) (by omega)];omega
  ·simp only[ge_iff_le,decide_eq_false_iff_not]at h;have:j=0:=by omega
   subst this;show a.2=_;rw[j3,List.drop_zero]
 refine .skip (.cM _ (E7 n hn f hv self up D hDr) fun(W:List aF) hW=>?_)
 have lW:W.length≤3612:=by rw[hW];exact Ow n hn f hv self up D hDr
 have aW:W.Pairwise (fun a b=>tI a b):=by rw[hW];exact Re n f self up D
 have iW:∀x∈W,Ke x.ah:=by rw[hW];exact Sf n f hv self up D fun r h=>hin r (d2 r h)
 refine .skip (.loop (fun a:Int=>∃i:Nat,a=(i:Int)∧1≤i) (fun a=>W.length - a.toNat) (Sum.elim (fun _=>False) fun _=>True) rfl ⟨1,rfl,Nat.le_refl _⟩ (by simp;omega) (fun a ha=>?_) (fun t ht=>?_))
 ·obtain⟨i,rfl,hi1⟩:=ha;refine .skip (.op () rfl (.skip (.br (fun h=>?_) fun h=>.skip (.done rfl trivial))))
  simp only[decide_eq_true_eq]at h;have hi:i<W.length:=by omega
  obtain⟨p,rfl⟩:∃p,i=p+1:=⟨i - 1,by omega⟩
  have hp:p<W.length:=by omega
  have ew:IntKind.wrap .i64 (((p+1:Nat):Int) - 1)=((p:Nat):Int):=by rw[wrap_i64 (by omega) (by omega)];omega
  have hx:jd W (IntKind.wrap .i64 (((p+1:Nat):Int) - 1))=some W[p]:=by rw[ew,cK,List.getElem?_eq_getElem hp]
  have hy:jd W ((p+1:Nat):Int)=some W[p+1]:=by rw[cK,List.getElem?_eq_getElem hi]
  have hlt:tI W[p] W[p+1]:=List.pairwise_iff_getElem.1 aW p (p+1) hp hi (by omega)
  have hx1:=iW _ (List.getElem_mem hp);have hy1:=iW _ (List.getElem_mem hi);generalize W[p]=x at hx hlt hx1;generalize W[p+1]=y at hy hlt hy1;have nx:(∃i:Nat,IntKind.wrap .i64 (((p+1:Nat):Int)+1)=(i:Int)∧1≤i)∧W.length - (IntKind.wrap .i64 (((p+1:Nat):Int)+1)).toNat<W.length - ((p+1:Nat):Int).toNat:=by
   rw[fk (by omega)]
   exact⟨⟨p+2,rfl,by omega⟩,by simp only[Int.toNat_natCast];omega⟩
  unfold tI rz gR dX at hlt;refine .skip (.op _ hx (.skip (.op _ hy (.skip (.call _ (Gs n _ _) fun(c:Int) hc=>.skip (.op _ hx (.skip (.op _ hy (.skip (.br (fun g=>?_) fun g=>.skip (.op _ hx (.skip (.op _ hy (.skip (.br (fun g2=>.skip (.br (fun g3=>?_) fun g3=>.skip (.done rfl nx))) fun g2=>.skip (.done rfl nx))))))))))))))))
  ·simp only[gt_iff_lt,decide_eq_true_eq]at g;exfalso;unfold cH at hlt;rw[if_neg (show ¬x.au<y.au by omega),if_pos g]at hlt
   simp at hlt
  ·simp only[beq_iff_eq]at g2;simp only[ge_iff_le,decide_eq_true_eq]at g3;exfalso;rw[wrap_i64 (by have:=hx1.1;omega) (by have:=hx1.2;omega),wrap_i64 (by have:=hy1.1;omega) (by have:=hy1.2;omega)]at hc
   rw[if_pos ((rZ _ _).2 g2)]at hlt;rw[hc]at g3;omega
 cases t with
 |inl t=>exact ht.elim
 |inr t=>?_
 have hDb:MR (D.reverse):=hr.sub (fun r h=>d2 r (List.mem_reverse.1 h)) (by simpa using dl)
 refine .skip (.aC _ (Ox (E7 n hn f hv self up (O1++O2) hDo)) fun(W1:List aF) hW1=>?_)
 have q1:W1=W:=by rw[hW1,hW];exact HT n f hv self up d3 hom
 subst q1;refine .skip (.call _ (Dp n W1 (by omega) (by omega)) fun(b:Bool) hb=>.skip (.br (fun _=>?_) fun h=>by rw[hb]at h;cases h))
 have ht:t30=D.reverse:=ht30;subst ht;refine .skip (.aC _ (Ox (E7 n hn f hv self up _ hDb)) fun(W2:List aF) hW2=>?_)
 have q2:W2=W1:=by rw[hW2,hW];exact HT n f hv self up d3 fun r=>List.mem_reverse.symm
 subst q2;exact .skip (.call _ (Dp n W2 (by omega) (by omega)) fun(b:Bool) hb=>.skip (.done rfl hb))
end Go.L
end
