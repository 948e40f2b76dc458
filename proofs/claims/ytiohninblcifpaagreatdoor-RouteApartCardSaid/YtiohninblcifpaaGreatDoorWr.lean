/- Parts put together. No conditions. -/
import Derived.Test.YtiohninblcifpaaGreatDoorPk
import Derived.Test.YtiohninblcifpaaGreatDoorAd
import Derived.Test.YtiohninblcifpaaGreatDoorAc
set_option linter.unusedSimpArgs false
set_option linter.unusedVariables false
set_option maxRecDepth 100000
section
namespace Go.L
noncomputable section
open Go.AM
def HA:dF prog:=(dF.J7 pq (au×Int×List Bool) bF 38 cz (fun x=>[.agg (aK x.1),si x.2.1,.aB (x.2.2.map eB)]) (fun _=>[]) (fun l x=>(x.1,x.2.1,x.2.2,l)) (fun _ _=>rfl) (fun _=>rfl) (fun _=>rfl) (fun _=>rfl) (fun _=>rfl) (fun _ _=>rfl)).re (List bF×au×Int×List Bool×Nat) (fun x=>(x.1,x.2.2.2.2,(x.2.1,x.2.2.1,x.2.2.2.1)))
end
end Go.L
end
section
namespace Go.L
noncomputable section
open Go.AM
def wW(x1:(List aG))(x2:(List aG)):G prog (Sh.El (.one Bool)):=
 .skip 2<|.op (bE x1 cO) fun _=>.skip 1<|.op (bE x2 cO) fun _=>.skip 1<|.br 10 ((x1.length:Int) != (x2.length:Int)) (.skip 2<|.done [] false) (.skip 2<|.loop (.two (.one Unit) (.one Unit)) [.keep [0,1,5]] (fun(a:Int)=>⟨(ap [(.aB (List.map cO x1)),(.aB (List.map cO x2)),.aq,.aq,.aq,si a] (jl 20)),[],[]⟩)
  (Sum.elim (fun(_:Unit)=>(.ret,⟨(ap (jl 4) (ap [(sb false)] (jl 21))),[],[]⟩)) (fun(_:Unit)=>(.exit 0,⟨(jl 26),[],[]⟩))) (0:Int)
  (fun(a4:Int)=>.skip 2<|.op (bE x1 cO) fun _=>.skip 1<|.br 14 (decide (a4<(x1.length:Int))) (.skip 3<|.op (bu x1 cO 8 a4) fun x5=>.skip 3<|.op (bu x2 cO 8 a4) fun x6=>.skip 2<|.br 25 (!((x5.av==x6.av)&&((x5.ah.IP==x6.ah.IP)&&((x5.ah.Len==x6.ah.Len)&&((x5.BD==x6.BD)&&((x5.Next==x6.Next)&&((x5.bL==x6.bL)&&((x5.bq==x6.bq)&&((x5.cW==x6.cW)&&true))))))))) (.skip 2<|.done [.keep [4]] (.inr (.inl ()))) (.skip 4<|.done [.keep [0,1,5]] (.inl (IntKind.wrap .i64 (a4+1))))) (.skip 1<|.done [.keep []] (.inr (.inr ()))))
  (Sum.elim (fun _=>.done [] false) (fun _=>.skip 1<|.done [] true)))
def BQ:aD prog:=aD.of cfg 10 19 ((List aG)×(List aG)) (fun x=>[.aB (x.1.map cO),.aB (x.2.map cO)]) (.one Bool) (fun r=>.ret (sb r)) (fun x=>wW x.1 x.2) (fun x=>by kernel_rfl)
def KX:fE:={val:=fun f=> ![45,46,47,48,49,50,51,137,206,207,208,55,56,57,58,114,116,117,178,59,119,180,181,182,183,184,185,186,187,246,247,248,249,250,92,93,94,95,156,154,213,155,214,260,261,262,263,264,265,266,267,176,243,277,278,279,280,281,282,284,285,296,297,298,175,212,211,244,177,17].contains f,kill:=fun _ _=>[]}
def CT:au:=⟨2,1,[⟨0,2,1⟩,⟨1,2,1⟩],[⟨100,1⟩],[⟨0,10,2,⟨167772160,24⟩,167772161⟩,⟨0,20,3,⟨0,0⟩,0⟩],[⟨[0],[0,1]⟩,⟨[0,1],[0]⟩],[⟨2199023299073,167772165,0,1⟩],[],0,0,0,false,false,⟨3,9,100,20,5,50⟩⟩
def E4:bF:=⟨⟨2,1,⟨0,0,0,0,0,0,0,0,0,0⟩,0,2199023299073,167772165,true,⟨0,0⟩,0,10,100⟩,⟨0,[],184483842,false,0,false,0,false,0,[],[⟨0,2,253,232,0,0,0,2⟩,⟨0,2,253,232,0,0,0,1⟩,⟨6,3,2,0,0,0,0,1⟩],⟨0,0,0,0⟩⟩,0,false⟩
def KY:List aG:=[⟨0,⟨167772160,24⟩,0,0,0,0,0⟩,⟨0,⟨167772165,32⟩,-1,184483842,100,0,2199023255553⟩]
def Rc:AVal:=.sc (.slice none 0 0)
def UU:AVal:=.agg ((aK CT).set 7 Rc)
def UW:AVal:=.agg (((cz E4).set 22 Rc).set 30 Rc)
def e_1:Entry:=⟨35,[],UU⟩
theorem UE:BA (xg prog KX [] 2000 300) e_1=true:=by kernel_rfl
def e_2:Entry:=⟨36,[.agg (aK CT)],UW⟩
theorem UF:BA (xg prog KX [] 2000 300) e_2=true:=by kernel_rfl
def e_3:Entry:=⟨23,[.agg (aK CT),si 1],su 184483842⟩
theorem UG:BA (xg prog KX [] 2000 300) e_3=true:=by kernel_rfl
theorem TB{f:FuncId}{args:List AVal}{v:AVal}(h:jV prog f args (.ret v)):jV prog f args (.ret (jx v)):=
 ⟨h.1,fun g w vs hi hl=>(h.2 g w vs hi hl).mono fun e w' ⟨g',h1,h2,x,h3,h4⟩=>⟨g',h1,h2,x,h3,Ed v x h4⟩⟩
def TC(e:Entry)(h:BA (xg prog KX [] 2000 300) e=true):aD prog:={f:=e.f,X:=Unit,args:=fun _=>e.args,sh:=.one Unit,out:=fun _=>.ret (jx e.res),S:=fun _ _=>some (),ok:=fun _ _ _ _=>TB (Qj (A0 plainProg.mixed plainProg.names Cc.nil 2000 300) h)}
def yt:G prog (Sh.El (.one Bool)):=
 .skip 1<|.call (TC e_1 UE) () fun _=>.skip 4<|.call (TC e_2 UF) () fun _=>.skip 1<|.bw HA 1 0 [] ([E4],CT,(0:Int),[],1) fun(r1:List aG)=>.skip 6<|.call (TC e_3 UG) () fun _=>.skip 2<|.call BQ (r1,KY) fun(r2:Bool)=>.skip 1<|.done [] r2
def yu:aD prog:=aD.of KX 10 11 (Unit) (fun x=>[]) (.one Bool) (fun r=>.ret (sb r)) (fun x=>yt) (fun x=>by kernel_rfl)
end
end Go.L
end
