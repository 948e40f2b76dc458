/- How bindings are compared, and put into the table. No conditions. -/
import Derived.Test.YtpgpmlaafigpaaaGreatDoorWNk2
import Derived.Test.YtpgpmlaafigpaaaGreatDoorAd
import Derived.Test.YtpgpmlaafigpaaaGreatDoorPAt
namespace Go.L
open Go.AM
set_option maxRecDepth 100000
set_option linter.unusedVariables false
set_option linter.unusedSimpArgs false
theorem V0(n:Nat)(a b:Int):qL.S n (a,b)=some (fR a b):=by
 have e:∀(x:Int) {β:Type} (k:dS.sh.El→Option β),(dS.S n x).bind k=k false:=fun x β k=>by
  have:dS.S n x=some (x != x):=rfl;rw[this];simp only[bne_self_eq_false];rfl
 show(qK a b).run n=_;simp only[qK,G.run,aI,if_true,e,fR,decide_eq_true_eq];simp only[Bool.false_eq_true,if_false];split
 ·rfl
 ·split<;>rfl
theorem V1(n:Nat)(a b:Int):tV.S n (a,b)=some (fR a b):=by
 have e:∀(x:Int) {β:Type} (k:oM.sh.El→Option β),(oM.S n x).bind k=k false:=fun x β k=>by
  have:oM.S n x=some (x != x):=rfl;rw[this];simp only[bne_self_eq_false];rfl
 show(tU a b).run n=_;simp only[tU,G.run,aI,if_true,e,fR,decide_eq_true_eq];simp only[Bool.false_eq_true,if_false];split
 ·rfl
 ·split<;>rfl
def jx(b:Bool):Int:=if b then 0 else 1
theorem Ot{a b:Bool}:jx a=jx b↔a=b:=by cases a<;>cases b<;>decide
theorem Ou(n:Nat)(a b:Bool):qX.S n (a,b)=some (fR (jx a) (jx b)):=by cases a<;>cases b<;>rfl
def J4(a b:ak):Int:=
 if fR (jx a.kB) (jx b.kB)≠0 then fR (jx a.kB) (jx b.kB)else
 if fR b.time a.time≠0 then fR b.time a.time else
 if fR b.seq a.seq≠0 then fR b.seq a.seq else
 if fR (jx a.nu) (jx b.nu)≠0 then fR (jx a.nu) (jx b.nu)else
 if fR a.next b.next≠0 then fR a.next b.next else
 if fR a.qU b.qU≠0 then fR a.qU b.qU else 0
theorem TB(n:Nat)(a b:ak):eT.S n (a,b)=some (J4 a b):=by
 have e1:∀{β:Type} (k:mH.sh.El→Option β),(mH.S n (a,b)).bind k=k (fR (jx a.kB) (jx b.kB)):=fun k=>by
  have:mH.S n (a,b)=some (fR (jx a.kB) (jx b.kB)):=by
   show(qX.S n (a.kB,b.kB)).bind _=_;rw[Ou];rfl
  rw[this];rfl
 have e2:∀{β:Type} (k:mI.sh.El→Option β),(mI.S n (a,b)).bind k=k (fR b.time a.time):=fun k=>by
  have:mI.S n (a,b)=some (fR b.time a.time):=by
   show(kK.S n (b.time,a.time)).bind _=_;rw[Mb];rfl
  rw[this];rfl
 have e3:∀{β:Type} (k:mJ.sh.El→Option β),(mJ.S n (a,b)).bind k=k (fR b.seq a.seq):=fun k=>by
  have:mJ.S n (a,b)=some (fR b.seq a.seq):=by
   show(qL.S n (b.seq,a.seq)).bind _=_;rw[V0];rfl
  rw[this];rfl
 have e4:∀{β:Type} (k:mK.sh.El→Option β),(mK.S n (a,b)).bind k=k (fR (jx a.nu) (jx b.nu)):=fun k=>by
  have:mK.S n (a,b)=some (fR (jx a.nu) (jx b.nu)):=by
   show(qX.S n (a.nu,b.nu)).bind _=_;rw[Ou];rfl
  rw[this];rfl
 have e5:∀{β:Type} (k:mL.sh.El→Option β),(mL.S n (a,b)).bind k=k (fR a.next b.next):=fun k=>by
  have:mL.S n (a,b)=some (fR a.next b.next):=by
   show(lg.S n (a.next,b.next)).bind _=_;rw[Oo];rfl
  rw[this];rfl
 have e6:∀{β:Type} (k:mM.sh.El→Option β),(mM.S n (a,b)).bind k=k (fR a.qU b.qU):=fun k=>by
  have:mM.S n (a,b)=some (fR a.qU b.qU):=by
   show(tV.S n (a.qU,b.qU)).bind _=_;rw[V1];rfl
  rw[this];rfl
 show(lH a b).run n=_;simp only[lH,G.run,aI,if_true,e1,e2,e3,e4,e5,e6,bne_iff_ne,J4]
 repeat' split
 all_goals rfl
def yt(a b:ak):Prop:=
 jx a.kB<jx b.kB∨jx a.kB=jx b.kB∧(b.time<a.time∨b.time=a.time∧(b.seq<a.seq∨b.seq=a.seq∧(jx a.nu<jx b.nu∨jx a.nu=jx b.nu∧(a.next<b.next∨a.next=b.next∧a.qU<b.qU))))
theorem UQ(c r:Int):(if c≠0 then c else r)<0↔c<0∨(c=0∧r<0):=by split<;>omega
theorem Ov(a b:ak):J4 a b<0↔yt a b:=by
 unfold J4 yt;simp only[UQ,GJ,J3,Int.lt_irrefl,and_false,or_false]
theorem Dv(a:ak):¬yt a a:=by unfold yt;omega
theorem J5{a b c:ak}(h1:yt a b)(h2:yt b c):yt a c:=by unfold yt at*;omega
theorem RZ{a b:ak}(h1:¬yt a b)(h2:¬yt b a):a=b:=by
 have e:jx a.kB=jx b.kB∧a.time=b.time∧a.seq=b.seq∧jx a.nu=jx b.nu∧a.next=b.next∧a.qU=b.qU:=by unfold yt at*;omega
 obtain⟨q1,q2,q3,q4,q5,q6⟩:=e;have p1:=Ot.1 q1;have p4:=Ot.1 q4;cases a;cases b;simp only at p1 q2 q3 p4 q5 q6;subst p1;subst q2;subst q3;subst p4;subst q5;subst q6;rfl
end Go.L
