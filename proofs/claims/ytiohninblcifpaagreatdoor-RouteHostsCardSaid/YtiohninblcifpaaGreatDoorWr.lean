/- Parts put together. No conditions. -/
import Derived.Test.YtiohninblcifpaaGreatDoorPk
import Derived.Test.YtiohninblcifpaaGreatDoorAd
import Derived.Test.YtiohninblcifpaaGreatDoorAc
set_option linter.unusedSimpArgs false
set_option linter.unusedVariables false
set_option maxRecDepth 100000
section
namespace Go.L
noncomputable section
open Go.AM
def wP:gU prog:=(gU.Jc k7 (av×Int×List Bool) bZ 38 eY (fun x=>[.agg (aJ x.1),si x.2.1,.aB (x.2.2.map eB)]) (fun _=>[]) (fun l x=>(x.1,x.2.1,x.2.2,l)) (fun _ _=>rfl) (fun _=>rfl) (fun _=>rfl) (fun _=>rfl) (fun _=>rfl) (fun _ _=>rfl)).re (List bZ×av×Int×List Bool×Nat) (fun x=>(x.1,x.2.2.2.2,(x.2.1,x.2.2.1,x.2.2.2.1)))
def H6(n:Nat):u7 prog:=u7.apart k7 (fun _=>rfl) (fun _=>rfl) n
end
end Go.L
end
section
namespace Go.L
noncomputable section
open Go.AM
def wQ(x1:(List az))(x2:(List az)):G prog (Sh.El (.one Bool)):=
 .skip 2<|.op (bB x1 dF) fun _=>.skip 1<|.op (bB x2 dF) fun _=>.skip 1<|.br 10 ((x1.length:Int) != (x2.length:Int)) (.skip 2<|.done [] false) (.skip 2<|.loop (.two (.one Unit) (.one Unit)) [.keep [0,1,5]] (fun(a:Int)=>⟨(ap [(.aB (List.map dF x1)),(.aB (List.map dF x2)),.ak,.ak,.ak,si a] (jl 20)),[],[]⟩)
  (Sum.elim (fun(_:Unit)=>(.ret,⟨(ap (jl 4) (ap [(sb false)] (jl 21))),[],[]⟩)) (fun(_:Unit)=>(.exit 0,⟨(jl 26),[],[]⟩))) (0:Int)
  (fun(a4:Int)=>.skip 2<|.op (bB x1 dF) fun _=>.skip 1<|.br 14 (decide (a4<(x1.length:Int))) (.skip 3<|.op (bt x1 dF 8 a4) fun x5=>.skip 3<|.op (bt x2 dF 8 a4) fun x6=>.skip 2<|.br 25 (!((x5.au==x6.au)&&((x5.af.IP==x6.af.IP)&&((x5.af.Len==x6.af.Len)&&((x5.BD==x6.BD)&&((x5.Next==x6.Next)&&((x5.aZ==x6.aZ)&&((x5.aS==x6.aS)&&((x5.bD==x6.bD)&&true))))))))) (.skip 2<|.done [.keep [4]] (.inr (.inl ()))) (.skip 4<|.done [.keep [0,1,5]] (.inl (IntKind.wrap .i64 (a4+1))))) (.skip 1<|.done [.keep []] (.inr (.inr ()))))
  (Sum.elim (fun _=>.done [] false) (fun _=>.skip 1<|.done [] true)))
def Bj:aK prog:=aK.of cfg 10 19 ((List az)×(List az)) (fun x=>[.aB (x.1.map dF),.aB (x.2.map dF)]) (.one Bool) (fun r=>.ret (sb r)) (fun x=>wQ x.1 x.2) (fun x=>by kernel_rfl)
def Dj:fF:={val:=fun f=> ![45,46,47,48,49,50,51,137,206,207,208,55,56,57,58,114,116,117,178,59,119,180,181,182,183,184,185,186,187,246,247,248,249,250,92,93,94,95,156,154,213,155,214,260,261,262,263,264,265,266,267,176,243,277,278,279,280,281,282,284,285,296,297,298,175,212,211,244,177,17].contains f,kill:=fun _ _=>[]}
def Cj:av:=⟨2,1,[⟨0,2,1⟩,⟨1,2,1⟩],[⟨100,1⟩],[⟨0,10,2,⟨167772160,24⟩,167772161⟩,⟨0,20,3,⟨0,0⟩,0⟩],[⟨[0],[0,1]⟩,⟨[0,1],[0]⟩],[⟨2199023299073,167772165,0,1⟩],[],0,0,0,false,false,⟨3,9,100,20,5,50⟩⟩
def Et:bZ:=⟨⟨2,1,⟨0,0,0,0,0,0,0,0,0,0⟩,0,2199023299073,167772165,true,⟨0,0⟩,0,10,100⟩,⟨0,[],184483842,false,0,false,0,false,0,[],[⟨0,2,253,232,0,0,0,2⟩,⟨0,2,253,232,0,0,0,1⟩,⟨6,3,2,0,0,0,0,1⟩],⟨0,0,0,0⟩⟩,0,false⟩
def JX:List az:=[⟨0,⟨167772160,24⟩,0,0,0,0,0⟩,⟨0,⟨167772165,32⟩,-1,184483842,100,0,2199023255553⟩]
def PB:AVal:=.sc (.slice none 0 0)
def SO:AVal:=.agg ((aJ Cj).set 7 PB)
def SP:AVal:=.agg (((eY Et).set 22 PB).set 30 PB)
def e_1:Entry:=⟨35,[],SO⟩
theorem Ss:AX (wT prog Dj [] 2000 300) e_1=true:=by kernel_rfl
def e_2:Entry:=⟨36,[.agg (aJ Cj)],SP⟩
theorem Su:AX (wT prog Dj [] 2000 300) e_2=true:=by kernel_rfl
def e_3:Entry:=⟨23,[.agg (aJ Cj),si 1],su 184483842⟩
theorem Sv:AX (wT prog Dj [] 2000 300) e_3=true:=by kernel_rfl
theorem RB{f:FuncId}{args:List AVal}{v:AVal}(h:jX prog f args (.ret v)):jX prog f args (.ret (jg v)):=
 ⟨h.1,fun g w vs hi hl=>(h.2 g w vs hi hl).mono fun e w' ⟨g',h1,h2,x,h3,h4⟩=>⟨g',h1,h2,x,h3,Dw v x h4⟩⟩
def RE(e:Entry)(h:AX (wT prog Dj [] 2000 300) e=true):aK prog:={f:=e.f,X:=Unit,args:=fun _=>e.args,sh:=.one Unit,out:=fun _=>.ret (jg e.res),S:=fun _ _=>some (),ok:=fun _ _ _ _=>RB (OG (Ao plainProg.mixed plainProg.names BA.nil 2000 300) h)}
def ye:G prog (Sh.El (.one Bool)):=
 .skip 1<|.call (RE e_1 Ss) () fun _=>.skip 4<|.call (RE e_2 Su) () fun _=>.skip 1<|.cB wP 1 0 [] ([Et],Cj,(0:Int),[],1) fun(r1:List az)=>.skip 6<|.call (RE e_3 Sv) () fun _=>.skip 2<|.call Bj (r1,JX) fun(r2:Bool)=>.skip 1<|.done [] r2
def yf:aK prog:=aK.of Dj 10 11 (Unit) (fun x=>[]) (.one Bool) (fun r=>.ret (sb r)) (fun x=>ye) (fun x=>by kernel_rfl)
end
end Go.L
end
