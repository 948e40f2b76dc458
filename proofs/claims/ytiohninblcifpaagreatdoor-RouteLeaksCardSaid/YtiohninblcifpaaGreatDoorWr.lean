/- Put together out of parts: The hops of a leaf, whatever order the map is gone through in. No conditions. -/
import Derived.Test.YtiohninblcifpaaGreatDoorPk
import Derived.Test.YtiohninblcifpaaGreatDoorAd
import Derived.Test.YtiohninblcifpaaGreatDoorAc
section
namespace Go.L
open Go.AM
set_option maxRecDepth 100000
noncomputable def FW:dN prog:=(dN.Ij pO (aG×Int×List Bool) cz 38 cN (fun x=>[.agg (aI x.1),si x.2.1,.ax (x.2.2.map eB)]) (fun _=>[]) (fun l x=>(x.1,x.2.1,x.2.2,l)) (fun _ _=>rfl) (fun _=>rfl) (fun _=>rfl) (fun _=>rfl) (fun _=>rfl) (fun _ _=>rfl)).re (List cz×aG×Int×List Bool×Nat) (fun x=>(x.1,x.2.2.2.2,(x.2.1,x.2.2.1,x.2.2.2.1)))
end Go.L
end
section
namespace Go.L
open Go.AM
set_option maxRecDepth 100000
set_option linter.unusedVariables false
set_option linter.unusedSimpArgs false
noncomputable def vV(x1:(List aB))(x2:(List aB)):G prog (Sh.El (.one Bool)):=
 .skip 2<|.op (bI x1 bB) fun _=>.skip 1<|.op (bI x2 bB) fun _=>.skip 1<|.br 10 ((x1.length:Int) != (x2.length:Int)) (.skip 2<|.done [] false) (.skip 2<|.loop (.two (.one Unit) (.one Unit)) [.keep [0,1,5]] (fun(a:Int)=>⟨(ap [(.ax (List.map bB x1)),(.ax (List.map bB x2)),.aq,.aq,.aq,si a] (jl 20)),[],[]⟩)
  (Sum.elim (fun(_:Unit)=>(.ret,⟨(ap (jl 4) (ap [(sb false)] (jl 21))),[],[]⟩)) (fun(_:Unit)=>(.exit 0,⟨(jl 26),[],[]⟩))) (0:Int)
  (fun(a4:Int)=>.skip 2<|.op (bI x1 bB) fun _=>.skip 1<|.br 14 (decide (a4<(x1.length:Int))) (.skip 3<|.op (cc x1 bB 8 a4) fun x5=>.skip 3<|.op (cc x2 bB 8 a4) fun x6=>.skip 2<|.br 25 (!((x5.av==x6.av)&&((x5.af.IP==x6.af.IP)&&((x5.af.Len==x6.af.Len)&&((x5.BD==x6.BD)&&((x5.Next==x6.Next)&&((x5.dz==x6.dz)&&((x5.bV==x6.bV)&&((x5.cF==x6.cF)&&true))))))))) (.skip 2<|.done [.keep [4]] (.inr (.inl ()))) (.skip 4<|.done [.keep [0,1,5]] (.inl (IntKind.wrap .i64 (a4+1))))) (.skip 1<|.done [.keep []] (.inr (.inr ()))))
  (Sum.elim (fun _=>.done [] false) (fun _=>.skip 1<|.done [] true)))
noncomputable def Ay:aK prog:=aK.of cfg 10 19 ((List aB)×(List aB)) (fun x=>[.ax (x.1.map bB),.ax (x.2.map bB)]) (.one Bool) (fun r=>.ret (sb r)) (fun x=>vV x.1 x.2) (fun x=>by kernel_rfl)
def Jf:fL:={val:=fun f=> ![45,46,47,48,49,50,51,137,206,207,208,55,56,57,58,114,116,117,178,59,119,180,181,182,183,184,185,186,187,246,247,248,249,250,92,93,94,95,156,154,213,155,214,260,261,262,263,264,265,266,267,176,243,277,278,279,280,281,282,284,285,296,297,298,175,212,211,244,177,17].contains f,kill:=fun _ _=>[]}
def Bv:aG:=⟨2,1,[⟨0,2,1⟩,⟨1,2,1⟩],[⟨100,1⟩],[⟨0,10,2,⟨167772160,24⟩,167772161⟩,⟨0,20,3,⟨0,0⟩,0⟩],[⟨[0],[0,1]⟩,⟨[0,1],[0]⟩],[⟨2199023299073,167772165,0,1⟩],[],0,0,0,false,false,⟨3,9,100,20,5,50⟩⟩
def Jg:cz:=⟨⟨2,1,⟨0,0,0,0,0,0,0,0,0,0⟩,0,2199023299073,167772165,true,⟨0,0⟩,0,10,100⟩,⟨0,[],184483842,false,0,false,0,false,0,[],[⟨0,2,253,232,0,0,0,2⟩,⟨0,2,253,232,0,0,0,1⟩,⟨6,3,2,0,0,0,0,1⟩],⟨0,0,0,0⟩⟩,0,false⟩
def Jh:List aB:=[⟨0,⟨167772160,24⟩,0,0,0,0,0⟩,⟨0,⟨167772165,32⟩,-1,184483842,100,0,2199023255553⟩]
def OL:AVal:=.sc (.slice none 0 0)
def RX:AVal:=.agg ((aI Bv).set 7 OL)
def RY:AVal:=.agg (((cN Jg).set 22 OL).set 30 OL)
def e_1:Entry:=⟨35,[],RX⟩
theorem RH:Ac (vY prog Jf [] 2000 300) e_1=true:=by kernel_rfl
def e_2:Entry:=⟨36,[.agg (aI Bv)],RY⟩
theorem RI:Ac (vY prog Jf [] 2000 300) e_2=true:=by kernel_rfl
def e_3:Entry:=⟨23,[.agg (aI Bv),si 1],su 184483842⟩
theorem RJ:Ac (vY prog Jf [] 2000 300) e_3=true:=by kernel_rfl
theorem QX{f:FuncId}{args:List AVal}{v:AVal}(h:kr prog f args (.ret v)):kr prog f args (.ret (jK v)):=
 ⟨h.1,fun g w vs hi hl=>(h.2 g w vs hi hl).mono fun e w' ⟨g',h1,h2,x,h3,h4⟩=>⟨g',h1,h2,x,h3,CK v x h4⟩⟩
noncomputable def QY(e:Entry)(h:Ac (vY prog Jf [] 2000 300) e=true):aK prog:={f:=e.f,X:=Unit,args:=fun _=>e.args,sh:=.one Unit,out:=fun _=>.ret (jK e.res),S:=fun _ _=>some (),ok:=fun _ _ _ _=>QX (NI (zB plainProg.mixed plainProg.names AQ.nil 2000 300) h)}
noncomputable def xk:G prog (Sh.El (.one Bool)):=
 .skip 1<|.call (QY e_1 RH) () fun _=>.skip 4<|.call (QY e_2 RI) () fun _=>.skip 1<|.aF FW 1 0 [] ([Jg],Bv,(0:Int),[],1) fun(r1:List aB)=>.skip 6<|.call (QY e_3 RJ) () fun _=>.skip 2<|.call Ay (r1,Jh) fun(r2:Bool)=>.skip 1<|.done [] r2
noncomputable def xl:aK prog:=aK.of Jf 10 11 (Unit) (fun x=>[]) (.one Bool) (fun r=>.ret (sb r)) (fun x=>xk) (fun x=>by kernel_rfl)
end Go.L
end
