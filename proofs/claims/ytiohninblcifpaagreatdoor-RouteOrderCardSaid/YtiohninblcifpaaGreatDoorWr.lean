/- Put together out of parts: The hops of a leaf, whatever order the map is gone through in. No conditions. -/
import Derived.Test.YtiohninblcifpaaGreatDoorPk
import Derived.Test.YtiohninblcifpaaGreatDoorAd
import Derived.Test.YtiohninblcifpaaGreatDoorAc
set_option linter.unusedSimpArgs false
set_option linter.unusedVariables false
set_option maxRecDepth 100000
section
namespace Go.L
noncomputable section
open Go.AM
def td:dJ prog:=(dJ.Jp nU (aG×Int×List Bool) aK 38 aL (fun x=>[.agg (bu x.1),si x.2.1,.av (x.2.2.map eB)]) (fun _=>[]) (fun l x=>(x.1,x.2.1,x.2.2,l)) (fun _ _=>rfl) (fun _=>rfl) (fun _=>rfl) (fun _=>rfl) (fun _=>rfl) (fun _ _=>rfl)).re (List aK×aG×Int×List Bool×Nat) (fun x=>(x.1,x.2.2.2.2,(x.2.1,x.2.2.1,x.2.2.2.1)))
def Io(n:Nat):tB prog:=tB.apart nU (fun _=>rfl) (fun _=>rfl) n
end
end Go.L
end
section
namespace Go.L
noncomputable section
open Go.AM
def wN(x1:(List aF))(x2:(List aF)):G prog (Sh.El (.one Bool)):=
 .skip 2<|.op (bG x1 dz) fun _=>.skip 1<|.op (bG x2 dz) fun _=>.skip 1<|.br 10 ((x1.length:Int) != (x2.length:Int)) (.skip 2<|.done [] false) (.skip 2<|.loop (.two (.one Unit) (.one Unit)) [.keep [0,1,5]] (fun(a:Int)=>⟨(ap [(.av (List.map dz x1)),(.av (List.map dz x2)),.aq,.aq,.aq,si a] (jl 20)),[],[]⟩)
  (Sum.elim (fun(_:Unit)=>(.ret,⟨(ap (jl 4) (ap [(sb false)] (jl 21))),[],[]⟩)) (fun(_:Unit)=>(.exit 0,⟨(jl 26),[],[]⟩))) (0:Int)
  (fun(a4:Int)=>.skip 2<|.op (bG x1 dz) fun _=>.skip 1<|.br 14 (decide (a4<(x1.length:Int))) (.skip 3<|.op (cB x1 dz 8 a4) fun x5=>.skip 3<|.op (cB x2 dz 8 a4) fun x6=>.skip 2<|.br 25 (!((x5.au==x6.au)&&((x5.ah.IP==x6.ah.IP)&&((x5.ah.Len==x6.ah.Len)&&((x5.BD==x6.BD)&&((x5.Next==x6.Next)&&((x5.dM==x6.dM)&&((x5.bO==x6.bO)&&((x5.dP==x6.dP)&&true))))))))) (.skip 2<|.done [.keep [4]] (.inr (.inl ()))) (.skip 4<|.done [.keep [0,1,5]] (.inl (IntKind.wrap .i64 (a4+1))))) (.skip 1<|.done [.keep []] (.inr (.inr ()))))
  (Sum.elim (fun _=>.done [] false) (fun _=>.skip 1<|.done [] true)))
def tf:aI prog:=aI.of cfg 10 19 ((List aF)×(List aF)) (fun x=>[.av (x.1.map dz),.av (x.2.map dz)]) (.one Bool) (fun r=>.ret (sb r)) (fun x=>wN x.1 x.2) (fun x=>by kernel_rfl)
def Ka:eP:={val:=fun f=> ![45,46,47,48,49,50,51,137,206,207,208,55,56,57,58,114,116,117,178,59,119,180,181,182,183,184,185,186,187,246,247,248,249,250,92,93,94,95,156,154,213,155,214,260,261,262,263,264,265,266,267,176,243,277,278,279,280,281,282,284,285,296,297,298,175,212,211,244,177,17].contains f,kill:=fun _ _=>[]}
def Cp:aG:=⟨2,1,[⟨0,2,1⟩,⟨1,2,1⟩],[⟨100,1⟩],[⟨0,10,2,⟨167772160,24⟩,167772161⟩,⟨0,20,3,⟨0,0⟩,0⟩],[⟨[0],[0,1]⟩,⟨[0,1],[0]⟩],[⟨2199023299073,167772165,0,1⟩],[],0,0,0,false,false,⟨3,9,100,20,5,50⟩⟩
def EC:aK:=⟨⟨2,1,⟨0,0,0,0,0,0,0,0,0,0⟩,0,2199023299073,167772165,true,⟨0,0⟩,0,10,100⟩,⟨0,[],184483842,false,0,false,0,false,0,[],[⟨0,2,253,232,0,0,0,2⟩,⟨0,2,253,232,0,0,0,1⟩,⟨6,3,2,0,0,0,0,1⟩],⟨0,0,0,0⟩⟩,0,false⟩
def Kb:List aF:=[⟨0,⟨167772160,24⟩,0,0,0,0,0⟩,⟨0,⟨167772165,32⟩,-1,184483842,100,0,2199023255553⟩]
def PZ:AVal:=.sc (.slice none 0 0)
def Tm:AVal:=.agg ((bu Cp).set 7 PZ)
def Tn:AVal:=.agg (((aL EC).set 22 PZ).set 30 PZ)
def e_1:Entry:=⟨35,[],Tm⟩
theorem S7:A0 (wV prog Ka [] 2000 300) e_1=true:=by kernel_rfl
def e_2:Entry:=⟨36,[.agg (bu Cp)],Tn⟩
theorem S8:A0 (wV prog Ka [] 2000 300) e_2=true:=by kernel_rfl
def e_3:Entry:=⟨23,[.agg (bu Cp),si 1],su 184483842⟩
theorem S9:A0 (wV prog Ka [] 2000 300) e_3=true:=by kernel_rfl
theorem Sb{f:FuncId}{args:List AVal}{v:AVal}(h:kr prog f args (.ret v)):kr prog f args (.ret (jK v)):=
 ⟨h.1,fun g w vs hi hl=>(h.2 g w vs hi hl).mono fun e w' ⟨g',h1,h2,x,h3,h4⟩=>⟨g',h1,h2,x,h3,DD v x h4⟩⟩
def Sc(e:Entry)(h:A0 (wV prog Ka [] 2000 300) e=true):aI prog:={f:=e.f,X:=Unit,args:=fun _=>e.args,sh:=.one Unit,out:=fun _=>.ret (jK e.res),S:=fun _ _=>some (),ok:=fun _ _ _ _=>Sb (OT (Ap plainProg.mixed plainProg.names BC.nil 2000 300) h)}
def xZ:G prog (Sh.El (.one Bool)):=
 .skip 1<|.call (Sc e_1 S7) () fun _=>.skip 4<|.call (Sc e_2 S8) () fun _=>.skip 1<|.aC td 1 0 [] ([EC],Cp,(0:Int),[],1) fun(r1:List aF)=>.skip 6<|.call (Sc e_3 S9) () fun _=>.skip 2<|.call tf (r1,Kb) fun(r2:Bool)=>.skip 1<|.done [] r2
def ya:aI prog:=aI.of Ka 10 11 (Unit) (fun x=>[]) (.one Bool) (fun r=>.ret (sb r)) (fun x=>xZ) (fun x=>by kernel_rfl)
end
end Go.L
end
