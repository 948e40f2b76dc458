/- slices.Clone as a function that hands back a row of its own. No conditions. -/
import Derived.Test.YtpgpmlaafigpaaaGreatDoorWPm
namespace Go.L
open Go.AM
set_option maxRecDepth 100000
set_option linter.unusedVariables false
set_option linter.unusedSimpArgs false
noncomputable def jT(x:List (V8 Int)):G prog (Sh.El (.one (List (V8 Int)))):=
 .skip 2<|.op (Lu x (ay (cI .u8)) true) fun _=>.skip 3<|.op (fu 0 [] x (ay (cI .u8)) 8 8 0 0 1 []) fun _=>.skip 1<|.done [.keep [2],.cut [0] [] [aR 0 1 8 ([]++x) (ay (cI .u8)) fun _=>rfl]] ([]++x)
noncomputable def mR:G prog (Sh.El (.one (List (V8 Int)))):=.skip 5<|.done [.keep [2],.own (.s 2) 8] ([]:List (V8 Int))
noncomputable def mS:G prog (Sh.El (.one (List (V8 Int)))):=.skip 8<|.done [.keep [2],.cut [0] [] []] ([]:List (V8 Int))
def dw(r:List (V8 Int)):aP×List aa:=(.ret (.sl 0 0 8 0 r.length),[.row 0 8 (r.map (ay (cI .u8)))])
theorem zA(x:List (V8 Int)):LA prog cfg 10 84 [.aj (x.map (ay (cI .u8)))] [] dw (jT x)=(jT x).dV (Bi dw):=by kernel_rfl
theorem yH:LA prog cfg 10 84 [.nz true] [] dw mR=mR.dV (Bi dw):=by kernel_rfl
theorem yI:LA prog cfg 10 84 [.nz false] [] dw mS=mS.dV (Bi dw):=by kernel_rfl
theorem yo(n:Nat)(x:(V8 Int))(l:List (V8 Int))(hr:roomy (0+(x::l).length) 8=true):(jT (x::l)).run n=some (x::l):=by
 have h0:(0:Nat)=([]:List (V8 Int)).length∧roomy (([]:List (V8 Int)).length+(x::l).length) 8=true:=⟨rfl,hr⟩;show(if((0:Nat)=([]:List (V8 Int)).length∧roomy (([]:List (V8 Int)).length+(x::l).length) 8=true)then some ()else none).bind (fun _=>some (x::l))=_
 rw[if_pos h0];rfl
def iA(l:List (V8 Int)):Option (List (V8 Int)):=if roomy (0+l.length) 8=true then some l else none
theorem yp(l r:List (V8 Int))(h:iA l=some r):bz prog 84 [.aj (l.map (ay (cI .u8)))] [] (.ret (.sl 0 0 8 0 r.length)) [.row 0 8 (r.map (ay (cI .u8)))]:=by
 unfold iA at h;split at h
 ·rename_i hr;cases h;cases l with
  |nil=>
   refine bz.Lt ?_ ?_
   ·exact(Dj (cfg:=cfg) (L:=10) (out:=dw) (g:=mR) (n:=0) (r:=([]:List (V8 Int))) plainProg.mixed plainProg.names (by rw[yH];exact G.bL (fun _=>rfl) _) rfl)
   ·exact(Dj (cfg:=cfg) (L:=10) (out:=dw) (g:=mS) (n:=0) (r:=([]:List (V8 Int))) plainProg.mixed plainProg.names (by rw[yI];exact G.bL (fun _=>rfl) _) rfl)
  |cons x l=>exact Dj (cfg:=cfg) (L:=10) (out:=dw) (g:=jT (x::l)) (n:=0) (r:=x::l) plainProg.mixed plainProg.names (by rw[zA];exact G.bL (fun _=>rfl) _) (yo 0 x l hr)
 ·cases h
noncomputable def nx(n:Nat):uG prog:=uG.fresh prog 84 (List (V8 Int)) (fun x=>[.aj (x.map (ay (cI .u8)))]) (V8 Int) 8 (ay (cI .u8)) (fun _=>rfl) (fun _=>rfl) (fun _ x=>iA x) (fun _ x r h=>yp x r h) n
end Go.L
