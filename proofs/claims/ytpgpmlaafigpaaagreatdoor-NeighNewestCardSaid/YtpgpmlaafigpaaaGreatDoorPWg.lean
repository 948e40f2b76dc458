/- NeighNewest: the remote binding of an address is that of the route with the greatest sequence number, for any numbers that select the fabric and any sequence numbers; the card, tied to the program's text. No conditions. -/
import Derived.Test.YtpgpmlaafigpaaaGreatDoorPNw8
import Derived.Test.YtpgpmlaafigpaaaGreatDoorAd
import Derived.Test.YtpgpmlaafigpaaaGreatDoorPLl
import Derived.Test.YtpgpmlaafigpaaaGreatDoorPWq
import Derived.Test.YtpgpmlaafigpaaaGreatDoorAc
import Derived.Test.YtpgpmlaafigpaaaGreatDoorRows
import Derived.Test.YtpgpmlaafigpaaaGreatDoorCards
import Derived.Test.YtpgpmlaafigpaaaGreatDoorTie
import Derived.Deep.DeepHandedRow
import Derived.Lib.LaidTab
namespace Go.L
open Go.AM Go.Proofs Go.ChangeShapes Go.WideShapes Go.ChangeAt Go.RowKit
set_option maxRecDepth 100000
set_option linter.unusedVariables false
theorem laid:laidOutB Tryz.prog=true:=by kernel_rfl
theorem wf_u32{n:Int}(h:(Go.Lit.int .u32 n).wf=true):0≤n∧n<4294967296:=by
 simp[Go.Lit.wf]at h;have e1:Go.IntKind.min .u32=0:=rfl;have e2:Go.IntKind.max .u32=4294967295:=rfl;omega
theorem Iu(l m:List Int)(h0:∀a∈l,(Go.Lit.int .i64 a).wf=true)(h1:∀a∈m,(Go.Lit.int .u32 a).wf=true):
 iQ prog 10 [.aj (l.map (eI .i64)),.aj (m.map (eI .u32))] (.ret (.sc (.bool true))):=by
 obtain⟨b,hb,rfl⟩:=Qp 5000 (Nat.le_refl _) l m fun x hx=>wf_u32 (h1 x hx)
 exact rG.ok 5000 (l,m) true hb
end Go.L
namespace Go.Proofs.YtpgpmlaafigpaaaGreatDoor.neighNewest
open Go.ChangeShapes Go.WideShapes Go.ChangeAt Go.RowKit Go.AM Go.L
set_option linter.unusedVariables false
def kv:List Value:=[(1,0,2),(2,3,12),(3,6,0),(4,6,1),(5,6,2),(6,6,3),(7,6,6)].flatMap fun(p:Int×Int×Int)=>[.int .i64 p.1,.int .u8 p.2.1,.int .u8 p.2.2]
def kk:List Kd:=(List.replicate 7 [.int .i64,.int .u8,.int .u8]).flatten
theorem Jc{W:World}(h:laidMet Tryz.prog Rows.neighNewestRow.laid W):og (Gh.bare W) W:=by
 refine JA (P := Tryz.prog) (name := "leafmesh/comm.kinds") (g := 0) (vs := kv) (by kernel_rfl) (Hg (g := 0) (t := 341) (ks := kk) (by kernel_rfl) (by kernel_rfl) (by kernel_rfl) (by kernel_rfl) h) (by kernel_rfl) fun i cs hi => ?_
 match i,hi with
 | 0,hi=>exact⟨rfl,(Option.some.inj hi).symm⟩
theorem own:ownKnob Tryz.prog.godebug=none:=by kernel_rfl
theorem slices:((List.range Tryz.prog.types.size).all fun t=>match Tryz.prog.underlying t with |some (.slice e)=>decide (0<Tryz.prog.cellsOf e) |_=>true)=true:=by kernel_rfl
theorem maps:mapsRowed Tryz.prog=true:=by kernel_rfl
theorem Jd:(Tryz.f10.params.toList.all fun t=>Nat.ble (t+1) Tryz.prog.types.size)=true:=by kernel_rfl
set_option maxRecDepth 100000 in
theorem contract(H:Type)(enc:TypeId×Value→H)(W:World)(base:Nat)(args:Array Value)(ds gs:List (DataW H))(before:List MemPlace)
 (hval:∀(j:Nat) t v,Tryz.f10.params[j]? =some t→args[j]? =some v→Value.okWide Tryz.prog W .any base t v)
 (hW:DataW.Whole enc Tryz.prog Tryz.f10.params.toList Rows.neighNewestSpec.vars false W args.toList ds gs before) (hL:laidMetH Tryz.prog Rows.neighNewestRow.laid W):
 Calls Tryz.prog 10 args W fun e W'=>∃v,e=.returned v∧Rows.neighNewestSpec.post enc Tryz.prog Tryz.f10 false true false false W args v W':=by
 have hW':=hW;have hlt:=hW.lt;obtain⟨p,q,hA0,hV,rfl,hfz,hnd⟩:=hW;have hA:DataW.TrodAll enc Tryz.prog W 0 (fun _=>true) true Tryz.f10.params.toList args.toList ds p:=hA0
 clear hA0;have hAll:=hA;rw[Tryz.params10]at hA hval;obtain⟨v0,r0,d0,e0,p0,q0,hv0,hd0,hp0,t0,hA⟩:=trodAll_cons hA;obtain⟨v1,r1,d1,e1,p1,q1,hv1,hd1,hp1,t1,hA⟩:=trodAll_cons hA;obtain⟨hr,hd,hq⟩:=trodAll_nil hA;obtain rfl:args= #[v0,v1]:=by apply Array.ext';simp only[hv0,hv1,hr]
 obtain rfl:ds=[d0,d1]:=by simp only[hd0,hd1,hd]
 obtain⟨rfl,rfl⟩:=trodVars_none hV;simp only[List.append_nil]at hW' hlt;obtain⟨a0,ok0,ra0⟩:=ct.cell (c:=(cL (eI .i64))) (ct.slice Tryz.underlying45 (by kernel_rfl) (by kernel_rfl) (ct.int Tryz.underlying3 (by kernel_rfl))) (by kernel_rfl) (hval 0 _ _ rfl rfl) t0
 obtain⟨a1,ok1,ra1⟩:=ct.cell (c:=(cL (eI .u32))) (ct.slice Tryz.underlying33 (by kernel_rfl) (by kernel_rfl) (ct.int Tryz.underlying26 (by kernel_rfl))) (by kernel_rfl) (hval 1 _ _ rfl rfl) t1
 refine(NU (Iu a0 a1 ok0 ok1) W (Jc hL) _ ⟨_,_,rfl,ra0,⟨_,_,rfl,ra1,rfl⟩⟩).mono fun e W' ⟨he,hg⟩=>?_
 subst he;exact⟨_,rfl,DI (pa:=p) (pv:=[]) hW' (fun _ _ _=>(trodAll_cons_mk (shut_bool Tryz.underlying4 _) trodAll_mk0))
  (fun sp hsp=>Ex laid maps (slices_full_of _ slices) hg (fun t ht=>Nat.le_of_ble_eq_true (List.all_eq_true.1 Jd t ht)) hAll hlt hsp) (fun _ _=>rfl) (by simp)
  hg (ok_one (by kernel_rfl) rfl (okWide_bool_mk Tryz.underlying4 _))⟩
noncomputable def oJ(os:Os):World:=
 {World.holding Tryz.prog os ⟨#[],#[.slice none 0 0,.slice none 0 0],[]⟩with heap:=(World.holding Tryz.prog os ⟨#[],#[.slice none 0 0,.slice none 0 0],[]⟩).heap.modify 0 fun
  | .cells _ t frozen=>.cells kv.toArray t frozen
  |o=>o}
theorem GI(os:Os):laidMet Tryz.prog Rows.neighNewestRow.laid ((oJ os).forCall (fun _ _=>0) ⟨#[],#[.slice none 0 0,.slice none 0 0],[]⟩).memory:=
 laidMet_of_run' 8 (by kernel_rfl) (by kernel_rfl)
theorem reads(os:Os){H:Type}(enc:TypeId×Value→H):∃x,DataW.whole enc Tryz.prog ((oJ os).forCall (fun _ _=>0) ⟨#[],#[.slice none 0 0,.slice none 0 0],[]⟩).memory Tryz.f10.params.toList Rows.neighNewestSpec.vars false (#[.slice none 0 0,.slice none 0 0]:Array Value).toList 8=some x:=by
 have h:(DataW.whole enc Tryz.prog ((oJ os).forCall (fun _ _=>0) ⟨#[],#[.slice none 0 0,.slice none 0 0],[]⟩).memory Tryz.f10.params.toList Rows.neighNewestSpec.vars false (#[.slice none 0 0,.slice none 0 0]:Array Value).toList 8).isSome=true:=by kernel_rfl
 exact Option.isSome_iff_exists.1 h
set_option maxRecDepth 100000 in
theorem lifted(os:Os)(started:os.Started)(H:Type)(enc:TypeId×Value→H)(F:Stop.Interp):
 ReturnsInHanded {} Tryz.checked os 10 .any ((OpenSpec.ofChange Rows.neighNewestSpec).preRow enc Tryz.prog Tryz.f10 Rows.neighNewestRow.domain false Rows.neighNewestRow.laid) (((OpenSpec.ofChange Rows.neighNewestSpec).at F).post enc Tryz.prog Tryz.f10 false true false false):=by
 obtain⟨x,hx⟩:=reads os enc;refine returnsInHanded_of_row (C:=Tryz.checked) (s:=OpenSpec.ofChange Rows.neighNewestSpec) own started (by kernel_rfl) Tryz.func10
  (witness_row_at (enc:=enc) (C:=Tryz.checked) false (oJ os) #[.slice none 0 0,.slice none 0 0] rfl (by kernel_rfl) (by kernel_rfl) (by kernel_rfl)
   (OpenSpec.preRow_of_cond 8 hx (by kernel_rfl) (fun k hk=>by cases hk) (by kernel_rfl) (GI os))) ?_
 intro W base args ds gs before hval hW _ _ _ hL _ _;exact contract H enc W base args ds gs before hval hW hL
theorem said:Rows.NeighNewestSaid:=
 OpenClaim.holds_of_cond 10 Tryz.f10 rfl rfl rfl rfl rfl rfl rfl ⟨rfl,rfl,rfl,rfl,rfl⟩ rfl rfl rfl rfl rfl (by kernel_rfl) Tryz.func10 closed
  (of_decide_eq_true (by kernel_rfl)) (by unfold Func.isWrapper;first | (rw[if_pos (by decide+kernel)];kernel_rfl) | (rw[if_neg (by decide+kernel)];exact⟨rfl,rfl⟩))
  (fun os started H enc _ F=>by rw[OpenClaim.pre_eq_preRow];exact lifted os started H enc F)
theorem plain(f:FuncId)(fn:Func)(hf:Tryz.pinned.checked.prog.funcNamed Rows.neighNewestRow.func=some f)(hfn:Tryz.pinned.checked.prog.funcs[f]? =some fn):
 true=Tryz.pinned.checked.prog.looks []∧∀(j:Nat) t,fn.params[j]? =some t→Tryz.pinned.checked.prog.wantsStandIn t=false:=by
 obtain rfl:f=10:=Option.some.inj ((show Tryz.prog.funcNamed Rows.neighNewestRow.func=some 10 by kernel_rfl).symm.trans hf) |>.symm
 obtain rfl:fn=Tryz.f10:=(Option.some.inj (Tryz.func10.symm.trans hfn)).symm;refine⟨by kernel_rfl,fun j t ht=>?_⟩
 have:=List.all_eq_true.1 Jb t (Array.mem_toList_iff.2 (Array.mem_of_getElem? ht));have h2:Tryz.prog.wantsStandIn t=false:=by simpa using this
 exact h2
theorem card:Rows.NeighNewestCardSaid:=
 Claim7.holds_tied_plain_at .later [] _ _ _ _ said (fun _ h=>by cases h) m1 (fun _ h=>by cases h) neighNewest_row_tie rfl ⟨rfl,rfl⟩ m2 rfl plain m3
end Go.Proofs.YtpgpmlaafigpaaaGreatDoor.neighNewest
