/- RouteNames: the chapter by example: connected subnets, host routes local and away, remote subnets, leaks, Lookup, and the empty answers; the card, tied to the program's text. No conditions. -/
import Derived.Test.YtiohninblcifpaaGreatDoorPn
import Derived.Test.YtiohninblcifpaaGreatDoorRd
import Derived.Test.YtiohninblcifpaaGreatDoorFrnq
import Derived.Test.YtiohninblcifpaaGreatDoorAd
import Derived.Test.YtiohninblcifpaaGreatDoorAc
import Derived.Test.YtiohninblcifpaaGreatDoorRows
import Derived.Test.YtiohninblcifpaaGreatDoorCards
import Derived.Test.YtiohninblcifpaaGreatDoorTie
import Derived.Deep.DeepHandedRow
import Derived.Lib.LaidTab
set_option linter.unusedVariables false
set_option maxRecDepth 100000
namespace Go.L
open Go.AM
theorem CP:gG prog 8 [] (.ret (.sc (.bool true))):=by
 obtain⟨r,hb,rfl⟩:=Hz;exact sM.ok 5000 () true hb
end Go.L
namespace Go.Proofs.YtiohninblcifpaaGreatDoor.routeNames
open Go.ChangeShapes Go.WideShapes Go.ChangeAt Go.RowKit Go.AM Go.L
def kv:List Value:=[(1,0,2),(2,3,12),(3,6,0),(4,6,1),(5,6,2),(6,6,3),(7,6,6)].flatMap fun(p:Int×Int×Int)=>[.int .i64 p.1,.int .u8 p.2.1,.int .u8 p.2.2]
def kk:List Kd:=(List.replicate 7 [.int .i64,.int .u8,.int .u8]).flatten
theorem KJ{W:World}(h:laidMet Tryz.prog Rows.routeNamesRow.laid W):kB (Gh.bare W) W:=by
 refine HW (P := Tryz.prog) (name := "leafmesh/comm.kinds") (g := 0) (vs := kv) (by kernel_rfl) (GO (g := 0) (t := 322) (ks := kk) (by kernel_rfl) (by kernel_rfl) (by kernel_rfl) (by kernel_rfl) h) (by kernel_rfl) fun i cs hi => ?_
 match i,hi with
 | 0,hi=>exact⟨rfl,(Option.some.inj hi).symm⟩
theorem own:ownKnob Tryz.prog.godebug=none:=by kernel_rfl
theorem slices:((List.range Tryz.prog.types.size).all fun t=>match Tryz.prog.underlying t with |some (.slice e)=>decide (0<Tryz.prog.cellsOf e) |_=>true)=true:=by kernel_rfl
theorem maps:mapsRowed Tryz.prog=true:=by kernel_rfl
theorem KK:(Tryz.f8.params.toList.all fun t=>Nat.ble (t+1) Tryz.prog.types.size)=true:=by kernel_rfl
set_option maxRecDepth 100000 in
theorem contract(H:Type)(enc:TypeId×Value→H)(W:World)(base:Nat)(args:Array Value)(ds gs:List (DataW H))(before:List MemPlace)
 (hval:∀(j:Nat) t v,Tryz.f8.params[j]? =some t→args[j]? =some v→Value.okWide Tryz.prog W .any base t v)
 (hW:DataW.Whole enc Tryz.prog Tryz.f8.params.toList Rows.routeNamesSpec.vars false W args.toList ds gs before) (hL:laidMetH Tryz.prog Rows.routeNamesRow.laid W):
 Calls Tryz.prog 8 args W fun e W'=>∃v,e=.returned v∧Rows.routeNamesSpec.post enc Tryz.prog Tryz.f8 false true false false W args v W':=by
 have hW':=hW;have hlt:=hW.lt;obtain⟨p,q,hA0,hV,rfl,hfz,hnd⟩:=hW;have hA:DataW.TrodAll enc Tryz.prog W 0 (fun _=>true) true Tryz.f8.params.toList args.toList ds p:=hA0
 clear hA0;have hAll:=hA;rw[Tryz.params8]at hA hval;obtain⟨hr,hd,hq⟩:=trodAll_nil hA;obtain rfl:args= #[]:=by apply Array.ext';simp only[hr]
 obtain rfl:ds=[]:=by simp only[hd]
 obtain⟨rfl,rfl⟩:=trodVars_none hV;simp only[List.append_nil]at hW' hlt;refine(Kr (CP) W (KJ hL) _ rfl).mono fun e W' ⟨he,hg⟩=>?_
 subst he;exact⟨_,rfl,DE (pa:=p) (pv:=[]) hW' (fun _ _ _=>(trodAll_cons_mk (shut_bool Tryz.underlying4 _) trodAll_mk0))
  (fun sp hsp=>EK laid maps (slices_full_of _ slices) hg (fun t ht=>Nat.le_of_ble_eq_true (List.all_eq_true.1 KK t ht)) hAll hlt hsp) (fun _ _=>rfl) (by simp)
  hg (ok_one (by kernel_rfl) rfl (okWide_bool_mk Tryz.underlying4 _))⟩
noncomputable def vl(os:Os):World:=
 {World.holding Tryz.prog os ⟨#[],#[],[]⟩with heap:=(World.holding Tryz.prog os ⟨#[],#[],[]⟩).heap.modify 0 fun
  | .cells _ t frozen=>.cells kv.toArray t frozen
  |o=>o}
theorem JN(os:Os):laidMet Tryz.prog Rows.routeNamesRow.laid ((vl os).forCall (fun _ _=>0) ⟨#[],#[],[]⟩).memory:=
 laidMet_of_run' 8 (by kernel_rfl) (by kernel_rfl)
theorem reads(os:Os){H:Type}(enc:TypeId×Value→H):∃x,DataW.whole enc Tryz.prog ((vl os).forCall (fun _ _=>0) ⟨#[],#[],[]⟩).memory Tryz.f8.params.toList Rows.routeNamesSpec.vars false (#[]:Array Value).toList 8=some x:=by
 have h:(DataW.whole enc Tryz.prog ((vl os).forCall (fun _ _=>0) ⟨#[],#[],[]⟩).memory Tryz.f8.params.toList Rows.routeNamesSpec.vars false (#[]:Array Value).toList 8).isSome=true:=by kernel_rfl
 exact Option.isSome_iff_exists.1 h
set_option maxRecDepth 100000 in
theorem lifted(os:Os)(started:os.Started)(H:Type)(enc:TypeId×Value→H)(F:Stop.Interp):
 ReturnsInHanded {} Tryz.checked os 8 .any ((OpenSpec.ofChange Rows.routeNamesSpec).preRow enc Tryz.prog Tryz.f8 Rows.routeNamesRow.domain false Rows.routeNamesRow.laid) (((OpenSpec.ofChange Rows.routeNamesSpec).at F).post enc Tryz.prog Tryz.f8 false true false false):=by
 obtain⟨x,hx⟩:=reads os enc;refine returnsInHanded_of_row (C:=Tryz.checked) (s:=OpenSpec.ofChange Rows.routeNamesSpec) own started (by kernel_rfl) Tryz.func8
  (witness_row_at (enc:=enc) (C:=Tryz.checked) false (vl os) #[] rfl (by kernel_rfl) (by kernel_rfl) (by kernel_rfl)
   (OpenSpec.preRow_of_cond 8 hx (by kernel_rfl) (fun k hk=>by cases hk) (by kernel_rfl) (JN os))) ?_
 intro W base args ds gs before hval hW _ _ _ hL _ _;exact contract H enc W base args ds gs before hval hW hL
theorem said:Rows.RouteNamesSaid:=
 OpenClaim.holds_of_cond 8 Tryz.f8 rfl rfl rfl rfl rfl rfl rfl ⟨rfl,rfl,rfl,rfl,rfl⟩ rfl rfl rfl rfl rfl (by kernel_rfl) Tryz.func8 closed
  (of_decide_eq_true (by kernel_rfl)) (by unfold Func.isWrapper;first | (rw[if_pos (by decide+kernel)];kernel_rfl) | (rw[if_neg (by decide+kernel)];exact⟨rfl,rfl⟩))
  (fun os started H enc _ F=>by rw[OpenClaim.pre_eq_preRow];exact lifted os started H enc F)
theorem plain(f:FuncId)(fn:Func)(hf:Tryz.pinned.checked.prog.funcNamed Rows.routeNamesRow.func=some f)(hfn:Tryz.pinned.checked.prog.funcs[f]? =some fn):
 true=Tryz.pinned.checked.prog.looks []∧∀(j:Nat) t,fn.params[j]? =some t→Tryz.pinned.checked.prog.wantsStandIn t=false:=by
 obtain rfl:f=8:=Option.some.inj ((show Tryz.prog.funcNamed Rows.routeNamesRow.func=some 8 by kernel_rfl).symm.trans hf) |>.symm
 obtain rfl:fn=Tryz.f8:=(Option.some.inj (Tryz.func8.symm.trans hfn)).symm;refine⟨by kernel_rfl,fun j t ht=>?_⟩
 have:=List.all_eq_true.1 KI t (Array.mem_toList_iff.2 (Array.mem_of_getElem? ht));have h2:Tryz.prog.wantsStandIn t=false:=by simpa using this
 exact h2
theorem card:Rows.RouteNamesCardSaid:=
 Claim7.holds_tied_plain_at .later [] _ _ _ _ said (fun _ h=>by cases h) m1 (fun _ h=>by cases h) routeNames_row_tie rfl ⟨rfl,rfl⟩ m2 rfl plain m3
end Go.Proofs.YtiohninblcifpaaGreatDoor.routeNames
