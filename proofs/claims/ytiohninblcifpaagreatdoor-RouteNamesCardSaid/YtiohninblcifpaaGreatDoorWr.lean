/- Parts put together. No conditions. -/
import Derived.Test.YtiohninblcifpaaGreatDoorPk
import Derived.Test.YtiohninblcifpaaGreatDoorAd
import Derived.Test.YtiohninblcifpaaGreatDoorAc
set_option linter.unusedSimpArgs false
set_option linter.unusedVariables false
set_option maxRecDepth 100000
section
namespace Go.L
noncomputable section
open Go.AM
def CC:jV prog:=(jV.EM uP (aB×Int×List Bool) bL 38 c6 (fun x=>[.agg (aC x.1),si x.2.1,.aD (x.2.2.map eB)]) (fun _=>[]) (fun l x=>(x.1,x.2.1,x.2.2,l)) (fun _ _=>rfl) (fun _=>rfl) (fun _=>rfl) (fun _=>rfl) (fun _=>rfl) (fun _ _=>rfl)).re (List bL×aB×Int×List Bool×Nat) (fun x=>(x.1,x.2.2.2.2,(x.2.1,x.2.2.1,x.2.2.2.1)))
end
end Go.L
end
section
namespace Go.L
noncomputable section
open Go.AM
def ri(x1:(List au))(x2:(List au)):G prog (Sh.El (.one Bool)):=
 .skip 2<|.op (bO x1 bF) fun _=>.skip 1<|.op (bO x2 bF) fun _=>.skip 1<|.br 10 ((x1.length:Int) != (x2.length:Int)) (.skip 2<|.done [] false) (.skip 2<|.loop (.two (.one Unit) (.one Unit)) [.keep [0,1,5]] (fun(a:Int)=>⟨(ap [(.aD (List.map bF x1)),(.aD (List.map bF x2)),.aq,.aq,.aq,si a] (jl 20)),[],[]⟩)
  (Sum.elim (fun(_:Unit)=>(.ret,⟨(ap (jl 4) (ap [(sb false)] (jl 21))),[],[]⟩)) (fun(_:Unit)=>(.exit 0,⟨(jl 26),[],[]⟩))) (0:Int)
  (fun(a4:Int)=>.skip 2<|.op (bO x1 bF) fun _=>.skip 1<|.br 14 (decide (a4<(x1.length:Int))) (.skip 3<|.op (bJ x1 bF 8 a4) fun x5=>.skip 3<|.op (bJ x2 bF 8 a4) fun x6=>.skip 2<|.br 25 (!((x5.aF==x6.aF)&&((x5.ah.IP==x6.ah.IP)&&((x5.ah.Len==x6.ah.Len)&&((x5.BD==x6.BD)&&((x5.Next==x6.Next)&&((x5.eN==x6.eN)&&((x5.bU==x6.bU)&&((x5.cG==x6.cG)&&true))))))))) (.skip 2<|.done [.keep [4]] (.inr (.inl ()))) (.skip 4<|.done [.keep [0,1,5]] (.inl (IntKind.wrap .i64 (a4+1))))) (.skip 1<|.done [.keep []] (.inr (.inr ()))))
  (Sum.elim (fun _=>.done [] false) (fun _=>.skip 1<|.done [] true)))
def kV:aA prog:=aA.of cfg 10 19 ((List au)×(List au)) (fun x=>[.aD (x.1.map bF),.aD (x.2.map bF)]) (.one Bool) (fun r=>.ret (sb r)) (fun x=>ri x.1 x.2) (fun x=>by kernel_rfl)
def Fi:dV:={val:=fun f=> ![45,46,47,48,49,50,51,137,206,207,208,55,56,57,58,114,116,117,178,59,119,180,181,182,183,184,185,186,187,246,247,248,249,250,92,93,94,95,156,154,213,155,214,260,261,262,263,264,265,266,267,176,243,277,278,279,280,281,282,284,285,296,297,298,175,212,211,244,177,17].contains f,kill:=fun _ _=>[]}
def xK:aB:=⟨2,1,[⟨0,2,1⟩,⟨1,2,1⟩],[⟨100,1⟩],[⟨0,10,2,⟨167772160,24⟩,167772161⟩,⟨0,20,3,⟨0,0⟩,0⟩],[⟨[0],[0,1]⟩,⟨[0,1],[0]⟩],[⟨2199023299073,167772165,0,1⟩],[],0,0,0,false,false,⟨3,9,100,20,5,50⟩⟩
def Am:bL:=⟨⟨2,1,⟨0,0,0,0,0,0,0,0,0,0⟩,0,2199023299073,167772165,true,⟨0,0⟩,0,10,100⟩,⟨0,[],184483842,false,0,false,0,false,0,[],[⟨0,2,253,232,0,0,0,2⟩,⟨0,2,253,232,0,0,0,1⟩,⟨6,3,2,0,0,0,0,1⟩],⟨0,0,0,0⟩⟩,0,false⟩
def Fj:List au:=[⟨0,⟨167772160,24⟩,0,0,0,0,0⟩,⟨0,⟨167772165,32⟩,-1,184483842,100,0,2199023255553⟩]
def JJ:AVal:=.sc (.slice none 0 0)
def MF:AVal:=.agg ((aC xK).set 7 JJ)
def MG:AVal:=.agg (((c6 Am).set 22 JJ).set 30 JJ)
def e_1:Entry:=⟨35,[],MF⟩
theorem Mk:wh (rC prog Fi [] 2000 300) e_1=true:=by kernel_rfl
def e_2:Entry:=⟨36,[.agg (aC xK)],MG⟩
theorem Ml:wh (rC prog Fi [] 2000 300) e_2=true:=by kernel_rfl
def e_3:Entry:=⟨23,[.agg (aC xK),si 1],su 184483842⟩
theorem Mm:wh (rC prog Fi [] 2000 300) e_3=true:=by kernel_rfl
theorem Lj{f:FuncId}{args:List AVal}{v:AVal}(h:gG prog f args (.ret v)):gG prog f args (.ret (gm v)):=
 ⟨h.1,fun g w vs hi hl=>(h.2 g w vs hi hl).mono fun e w' ⟨g',h1,h2,x,h3,h4⟩=>⟨g',h1,h2,x,h3,zf v x h4⟩⟩
def Ll(e:Entry)(h:wh (rC prog Fi [] 2000 300) e=true):aA prog:={f:=e.f,X:=Unit,args:=fun _=>e.args,sh:=.one Unit,out:=fun _=>.ret (gm e.res),S:=fun _ _=>some (),ok:=fun _ _ _ _=>Lj (I8 (vu plainProg.mixed plainProg.names wW.nil 2000 300) h)}
def s6:G prog (Sh.El (.one Bool)):=
 .skip 1<|.call (Ll e_1 Mk) () fun _=>.skip 4<|.call (Ll e_2 Ml) () fun _=>.skip 1<|.gM CC 1 0 [] ([Am],xK,(0:Int),[],1) fun(r1:List au)=>.skip 6<|.call (Ll e_3 Mm) () fun _=>.skip 2<|.call kV (r1,Fj) fun(r2:Bool)=>.skip 1<|.done [] r2
def xL:aA prog:=aA.of Fi 10 11 (Unit) (fun x=>[]) (.one Bool) (fun r=>.ret (sb r)) (fun x=>s6) (fun x=>by kernel_rfl)
end
end Go.L
end
