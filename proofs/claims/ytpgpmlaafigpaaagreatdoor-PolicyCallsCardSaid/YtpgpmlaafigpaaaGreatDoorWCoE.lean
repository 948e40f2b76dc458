/- The library's Compact of numbers, laid at this program, as a contract. No conditions. -/
import Derived.Test.YtpgpmlaafigpaaaGreatDoorWSb
import Derived.Test.YtpgpmlaafigpaaaGreatDoorAe
namespace Go.Proofs
open Go.Shelf
set_option maxRecDepth 100000
def Tryz.ED:Shelf.Ren where
 f:=fun x=>match x with
  | 43=>163
  |n=>n
 t:=fun x=>match x with
  | 22=>33
  | 23=>26
  | 3=>3
  | 4=>4
  | 0=>0
  |n=>n
 g:=fun n=>n
theorem Tryz.S4:SlLaysE.n43 Tryz.prog Tryz.ED where
 mixed:=by kernel_rfl
 f43 := ⟨"slices.Compact[[]uint32,uint32]", of_decide_eq_true (by kernel_rfl), Eq.trans Tryz.func163 (by kernel_rfl)⟩
 t0:=Tryz.underlying0
 a0:=Tryz.isAgg0
 z0:=Tryz.sizeOf0
 v0:=Tryz.zeroValue0
 t3:=Tryz.underlying3
 a3:=Tryz.isAgg3
 z3:=Tryz.sizeOf3
 v3:=Tryz.zeroValue3
 t4:=Tryz.underlying4
 a4:=Tryz.isAgg4
 z4:=Tryz.sizeOf4
 v4:=Tryz.zeroValue4
 t22:=Tryz.underlying33
 a22:=Tryz.isAgg33
 z22:=Tryz.sizeOf33
 v22:=Tryz.zeroValue33
 a23:=Tryz.isAgg26
 z23:=Tryz.sizeOf26
end Go.Proofs
namespace Go.L
open Go.AM Go.Proofs Go.Shelf
set_option linter.unusedVariables false
theorem LL(l:List Int):bz prog 163 [.sl 0 0 1 0 l.length] [.row 0 1 (l.map (eI .u32))] (.ret (.sl 0 0 1 0 (Lib.compact l).length)) [.row 0 1 ((Lib.compact l).map (eI .u32))]:=
 M6 (P:=prog) (ρ:=Tryz.ED) Tryz.S4 (Value.int .u32) (fun _=>rfl) (EqlAt.intD _ _ .u32) (NeqAt.intD _ _ .u32) 0 Tryz.zeroValue26 (fun _=>rfl) ⟨Tryz.f163,_,Tryz.func163,rfl,by decide⟩ l
def Ak(x:List Int×Nat):Option (List Int):=if x.2=x.1.length then some (Lib.compact x.1)else none
theorem M8(x:List Int×Nat)(r:List Int)(h:Ak x=some r):bz prog 163 [.sl 0 0 1 0 x.2] [.row 0 1 (x.1.map (eI .u32))] (.ret (.sl 0 0 1 0 r.length)) [.row 0 1 (r.map (eI .u32))]:=by
 unfold Ak at h;split at h
 ·rename_i hc;cases h;rw[hc];exact LL x.1
 ·cases h
noncomputable def iz:cD prog:={f:=163,X:=List Int×Nat,args:=fun x=>[.sl 0 0 1 0 x.2],blk:=fun x=>.row 0 1 (x.1.map (eI .u32)),sh:=.one (List Int),out:=fun(r:List Int)=>.ret (.sl 0 0 1 0 r.length),o5:=fun _ (r:List Int)=>.row 0 1 (r.map (eI .u32)),S:=fun _ x=>Ak x,a0:=fun _=>rfl,b0:=fun x=>by simp[aa.jt,eI,AVal.aT,AVal.pure],b1:=fun _ (r:List Int)=>.inl (by simp[aa.jt,eI,AVal.aT,AVal.pure]),r0:=fun _=>rfl,ok:=fun _ x r h=>M8 x r h}
end Go.L
