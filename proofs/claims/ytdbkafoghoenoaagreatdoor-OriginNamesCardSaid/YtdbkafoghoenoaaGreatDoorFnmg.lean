/- OriginNames: the chapter by example: what leaves originate, the entries that are not used, sequence and router of an entry, trees, and the empty answers; the card, tied to the program's text. No conditions. -/
import Derived.Test.YtdbkafoghoenoaaGreatDoorPv2
import Derived.Test.YtdbkafoghoenoaaGreatDoorRd
import Derived.Test.YtdbkafoghoenoaaGreatDoorFnmq
import Derived.Test.YtdbkafoghoenoaaGreatDoorAd
import Derived.Test.YtdbkafoghoenoaaGreatDoorAc
import Derived.Test.YtdbkafoghoenoaaGreatDoorRows
import Derived.Test.YtdbkafoghoenoaaGreatDoorCards
import Derived.Test.YtdbkafoghoenoaaGreatDoorTie
import Derived.Deep.DeepHandedRow
import Derived.Lib.LaidTab
set_option linter.unusedVariables false
set_option maxRecDepth 100000
namespace Go.L
open Go.AM
theorem wf_u64{n:Int}(h:(Go.Lit.int .u64 n).wf=true):0≤n∧n<18446744073709551616:=by
 simp[Go.Lit.wf]at h;have e1:IntKind.min .u64=0:=rfl;have e2:IntKind.max .u64=18446744073709551615:=rfl;omega
theorem wf_u32{n:Int}(h:(Go.Lit.int .u32 n).wf=true):0≤n∧n<4294967296:=by
 simp[Go.Lit.wf]at h;have e1:IntKind.min .u32=0:=rfl;have e2:IntKind.max .u32=4294967295:=rfl;omega
theorem law_originNames:FnVal prog 7 [] (.ret (.sc (.bool true))):=by
 obtain⟨r,hb,rfl⟩:=names_at;exact c_law32_OriginNames.ok 5000 () true hb
end Go.L
namespace Go.Proofs.YtdbkafoghoenoaaGreatDoor.originNames
open Go.ChangeShapes Go.WideShapes Go.ChangeAt Go.RowKit Go.AM Go.L
def kv:List Value:=[(1,0,2),(2,3,12),(3,6,0),(4,6,1),(5,6,2),(6,6,3),(7,6,6)].flatMap fun(p:Int×Int×Int)=>[.int .i64 p.1,.int .u8 p.2.1,.int .u8 p.2.2]
def kk:List Kd:=(List.replicate 7 [.int .i64,.int .u8,.int .u8]).flatten
theorem globsOk{W:World}(h:laidMet Tryz.prog Rows.originNamesRow.laid W):GlobsOk (Gh.bare W) W:=by
 refine globs_one (P := Tryz.prog) (name := "leafmesh/comm.kinds") (g := 0) (vs := kv) (by kernel_rfl) (laid_cells (g := 0) (t := 302) (ks := kk) (by kernel_rfl) (by kernel_rfl) (by kernel_rfl) (by kernel_rfl) h) (by kernel_rfl) fun i cs hi => ?_
 match i,hi with
 | 0,hi=>exact⟨rfl,(Option.some.inj hi).symm⟩
theorem own:ownKnob Tryz.prog.godebug=none:=by kernel_rfl
theorem slices:((List.range Tryz.prog.types.size).all fun t=>match Tryz.prog.underlying t with |some (.slice e)=>decide (0<Tryz.prog.cellsOf e) |_=>true)=true:=by kernel_rfl
theorem maps:mapsRowed Tryz.prog=true:=by kernel_rfl
theorem inTable:(Tryz.f7.params.toList.all fun t=>Nat.ble (t+1) Tryz.prog.types.size)=true:=by kernel_rfl
set_option maxRecDepth 100000 in
theorem contract(H:Type)(enc:TypeId×Value→H)(W:World)(base:Nat)(args:Array Value)(ds gs:List (DataW H))(before:List MemPlace)
 (hval:∀(j:Nat) t v,Tryz.f7.params[j]? =some t→args[j]? =some v→Value.okWide Tryz.prog W .any base t v)
 (hW:DataW.Whole enc Tryz.prog Tryz.f7.params.toList Rows.originNamesSpec.vars false W args.toList ds gs before) (hL:laidMetH Tryz.prog Rows.originNamesRow.laid W):
 Calls Tryz.prog 7 args W fun e W'=>∃v,e=.returned v∧Rows.originNamesSpec.post enc Tryz.prog Tryz.f7 false true false false W args v W':=by
 have hW':=hW;have hlt:=hW.lt;obtain⟨p,q,hA0,hV,rfl,hfz,hnd⟩:=hW;have hA:DataW.TrodAll enc Tryz.prog W 0 (fun _=>true) true Tryz.f7.params.toList args.toList ds p:=hA0
 clear hA0;have hAll:=hA;rw[Tryz.params7]at hA hval;obtain⟨hr,hd,hq⟩:=trodAll_nil hA;obtain rfl:args= #[]:=by apply Array.ext';simp only[hr]
 obtain rfl:ds=[]:=by simp only[hd]
 obtain⟨rfl,rfl⟩:=trodVars_none hV;simp only[List.append_nil]at hW' hlt;refine(law_top (law_originNames) W (globsOk hL) _ rfl).mono fun e W' ⟨he,hg⟩=>?_
 subst he;exact⟨_,rfl,post_of_below (pa:=p) (pv:=[]) hW' (fun _ _ _=>(trodAll_cons_mk (shut_bool Tryz.underlying4 _) trodAll_mk0))
  (fun sp hsp=>trodAll_kept laid maps (slices_full_of _ slices) hg (fun t ht=>Nat.le_of_ble_eq_true (List.all_eq_true.1 inTable t ht)) hAll hlt hsp) (fun _ _=>rfl) (by simp)
  hg (ok_one (by kernel_rfl) rfl (okWide_bool_mk Tryz.underlying4 _))⟩
noncomputable def laidWorld(os:Os):World:=
 {World.holding Tryz.prog os ⟨#[],#[],[]⟩with heap:=(World.holding Tryz.prog os ⟨#[],#[],[]⟩).heap.modify 0 fun
  | .cells _ t frozen=>.cells kv.toArray t frozen
  |o=>o}
theorem laid_met(os:Os):laidMet Tryz.prog Rows.originNamesRow.laid ((laidWorld os).forCall (fun _ _=>0) ⟨#[],#[],[]⟩).memory:=
 laidMet_of_run' 8 (by kernel_rfl) (by kernel_rfl)
theorem reads(os:Os){H:Type}(enc:TypeId×Value→H):∃x,DataW.whole enc Tryz.prog ((laidWorld os).forCall (fun _ _=>0) ⟨#[],#[],[]⟩).memory Tryz.f7.params.toList Rows.originNamesSpec.vars false (#[]:Array Value).toList 8=some x:=by
 have h:(DataW.whole enc Tryz.prog ((laidWorld os).forCall (fun _ _=>0) ⟨#[],#[],[]⟩).memory Tryz.f7.params.toList Rows.originNamesSpec.vars false (#[]:Array Value).toList 8).isSome=true:=by kernel_rfl
 exact Option.isSome_iff_exists.1 h
set_option maxRecDepth 100000 in
theorem lifted(os:Os)(started:os.Started)(H:Type)(enc:TypeId×Value→H)(F:Stop.Interp):
 ReturnsInHanded {} Tryz.checked os 7 .any ((OpenSpec.ofChange Rows.originNamesSpec).preRow enc Tryz.prog Tryz.f7 Rows.originNamesRow.domain false Rows.originNamesRow.laid) (((OpenSpec.ofChange Rows.originNamesSpec).at F).post enc Tryz.prog Tryz.f7 false true false false):=by
 obtain⟨x,hx⟩:=reads os enc;refine returnsInHanded_of_row (C:=Tryz.checked) (s:=OpenSpec.ofChange Rows.originNamesSpec) own started (by kernel_rfl) Tryz.func7
  (witness_row_at (enc:=enc) (C:=Tryz.checked) false (laidWorld os) #[] rfl (by kernel_rfl) (by kernel_rfl) (by kernel_rfl)
   (OpenSpec.preRow_of_cond 8 hx (by kernel_rfl) (fun k hk=>by cases hk) (by kernel_rfl) (laid_met os))) ?_
 intro W base args ds gs before hval hW _ _ _ hL _ _;exact contract H enc W base args ds gs before hval hW hL
theorem said:Rows.OriginNamesSaid:=
 OpenClaim.holds_of_cond 7 Tryz.f7 rfl rfl rfl rfl rfl rfl rfl ⟨rfl,rfl,rfl,rfl,rfl⟩ rfl rfl rfl rfl rfl (by kernel_rfl) Tryz.func7 closed
  (of_decide_eq_true (by kernel_rfl)) (by unfold Func.isWrapper;first | (rw[if_pos (by decide+kernel)];kernel_rfl) | (rw[if_neg (by decide+kernel)];exact⟨rfl,rfl⟩))
  (fun os started H enc _ F=>by rw[OpenClaim.pre_eq_preRow];exact lifted os started H enc F)
theorem plain(f:FuncId)(fn:Func)(hf:Tryz.pinned.checked.prog.funcNamed Rows.originNamesRow.func=some f)(hfn:Tryz.pinned.checked.prog.funcs[f]? =some fn):
 true=Tryz.pinned.checked.prog.looks []∧∀(j:Nat) t,fn.params[j]? =some t→Tryz.pinned.checked.prog.wantsStandIn t=false:=by
 obtain rfl:f=7:=Option.some.inj ((show Tryz.prog.funcNamed Rows.originNamesRow.func=some 7 by kernel_rfl).symm.trans hf) |>.symm
 obtain rfl:fn=Tryz.f7:=(Option.some.inj (Tryz.func7.symm.trans hfn)).symm;refine⟨by kernel_rfl,fun j t ht=>?_⟩
 have:=List.all_eq_true.1 noStand t (Array.mem_toList_iff.2 (Array.mem_of_getElem? ht));have h2:Tryz.prog.wantsStandIn t=false:=by simpa using this
 exact h2
theorem card:Rows.OriginNamesCardSaid:=
 Claim7.holds_tied_plain_at .later [] _ _ _ _ said (fun _ h=>by cases h) m1 (fun _ h=>by cases h) originNames_row_tie rfl ⟨rfl,rfl⟩ m2 rfl plain m3
end Go.Proofs.YtdbkafoghoenoaaGreatDoor.originNames
