/- OriginRoutes: the routes that a leaf originates and the group of a bridge domain are those that the document defines; for any fabric of the kit, leaf, ports, entries, claims and bridge domain; the card, tied to the program's text. No conditions. -/
import Derived.Test.YtdbkafoghoenoaaGreatDoorPy
import Derived.Test.YtdbkafoghoenoaaGreatDoorRd
import Derived.Test.YtdbkafoghoenoaaGreatDoorFrtq
import Derived.Test.YtdbkafoghoenoaaGreatDoorAd
import Derived.Test.YtdbkafoghoenoaaGreatDoorAc
import Derived.Test.YtdbkafoghoenoaaGreatDoorRows
import Derived.Test.YtdbkafoghoenoaaGreatDoorCards
import Derived.Test.YtdbkafoghoenoaaGreatDoorTie
import Derived.Deep.DeepHandedRow
import Derived.Lib.LaidTab
set_option linter.unusedVariables false
set_option maxRecDepth 100000
namespace Go.L
open Go.AM
theorem wf_u64{n:Int}(h:(Go.Lit.int .u64 n).wf=true):0≤n∧n<18446744073709551616:=by
 simp[Go.Lit.wf]at h;have e1:IntKind.min .u64=0:=rfl;have e2:IntKind.max .u64=18446744073709551615:=rfl;omega
theorem wf_u32{n:Int}(h:(Go.Lit.int .u32 n).wf=true):0≤n∧n<4294967296:=by
 simp[Go.Lit.wf]at h;have e1:IntKind.min .u32=0:=rfl;have e2:IntKind.max .u32=4294967295:=rfl;omega
theorem law_originRoutes(l:List Int)(a:Int)(u:List Bool)(ns:List Near)(cs:List Claim)(b:Int)(h0:∀a∈l,(Go.Lit.int .i64 a).wf=true)(h1:(Go.Lit.int .i64 a).wf=true)(h2:∀a∈u,True)(h3:∀x∈ns,okNear x)(h4:∀x∈cs,okClaim x)(h5:(Go.Lit.int .i64 b).wf=true):
 FnVal prog 6 [.lst (l.map (eI .i64)),.sc (.int .i64 a),.lst (u.map eB),.lst (ns.map eNear),.lst (cs.map eClaim),.sc (.int .i64 b)] (.ret (.sc (.bool true))):=by
 obtain⟨r,hb,rfl⟩:=routesLaw_at 100000 (Nat.le_refl _) l a u ns cs b (fun x hx=>wf_u32 (h3 x hx).2.2.2.1) fun c hc=>wf_u32 (h4 c hc).2.2.1
 exact c_law32_OriginRoutes.ok 100000 (l,a,u,ns,cs,b) true hb
end Go.L
namespace Go.Proofs.YtdbkafoghoenoaaGreatDoor.originRoutes
open Go.ChangeShapes Go.WideShapes Go.ChangeAt Go.RowKit Go.AM Go.L
def kv:List Value:=[(1,0,2),(2,3,12),(3,6,0),(4,6,1),(5,6,2),(6,6,3),(7,6,6)].flatMap fun(p:Int×Int×Int)=>[.int .i64 p.1,.int .u8 p.2.1,.int .u8 p.2.2]
def kk:List Kd:=(List.replicate 7 [.int .i64,.int .u8,.int .u8]).flatten
theorem globsOk{W:World}(h:laidMet Tryz.prog Rows.originRoutesRow.laid W):GlobsOk (Gh.bare W) W:=by
 refine globs_one (P := Tryz.prog) (name := "leafmesh/comm.kinds") (g := 0) (vs := kv) (by kernel_rfl) (laid_cells (g := 0) (t := 302) (ks := kk) (by kernel_rfl) (by kernel_rfl) (by kernel_rfl) (by kernel_rfl) h) (by kernel_rfl) fun i cs hi => ?_
 match i,hi with
 | 0,hi=>exact⟨rfl,(Option.some.inj hi).symm⟩
theorem own:ownKnob Tryz.prog.godebug=none:=by kernel_rfl
theorem slices:((List.range Tryz.prog.types.size).all fun t=>match Tryz.prog.underlying t with |some (.slice e)=>decide (0<Tryz.prog.cellsOf e) |_=>true)=true:=by kernel_rfl
theorem maps:mapsRowed Tryz.prog=true:=by kernel_rfl
theorem inTable:(Tryz.f6.params.toList.all fun t=>Nat.ble (t+1) Tryz.prog.types.size)=true:=by kernel_rfl
set_option maxRecDepth 100000 in
theorem contract(H:Type)(enc:TypeId×Value→H)(W:World)(base:Nat)(args:Array Value)(ds gs:List (DataW H))(before:List MemPlace)
 (hval:∀(j:Nat) t v,Tryz.f6.params[j]? =some t→args[j]? =some v→Value.okWide Tryz.prog W .any base t v)
 (hW:DataW.Whole enc Tryz.prog Tryz.f6.params.toList Rows.originRoutesSpec.vars false W args.toList ds gs before) (hL:laidMetH Tryz.prog Rows.originRoutesRow.laid W):
 Calls Tryz.prog 6 args W fun e W'=>∃v,e=.returned v∧Rows.originRoutesSpec.post enc Tryz.prog Tryz.f6 false true false false W args v W':=by
 have hW':=hW;have hlt:=hW.lt;obtain⟨p,q,hA0,hV,rfl,hfz,hnd⟩:=hW;have hA:DataW.TrodAll enc Tryz.prog W 0 (fun _=>true) true Tryz.f6.params.toList args.toList ds p:=hA0
 clear hA0;have hAll:=hA;rw[Tryz.params6]at hA hval;obtain⟨v0,r0,d0,e0,p0,q0,hv0,hd0,hp0,t0,hA⟩:=trodAll_cons hA;obtain⟨v1,r1,d1,e1,p1,q1,hv1,hd1,hp1,t1,hA⟩:=trodAll_cons hA;obtain⟨v2,r2,d2,e2,p2,q2,hv2,hd2,hp2,t2,hA⟩:=trodAll_cons hA;obtain⟨v3,r3,d3,e3,p3,q3,hv3,hd3,hp3,t3,hA⟩:=trodAll_cons hA;obtain⟨v4,r4,d4,e4,p4,q4,hv4,hd4,hp4,t4,hA⟩:=trodAll_cons hA;obtain⟨v5,r5,d5,e5,p5,q5,hv5,hd5,hp5,t5,hA⟩:=trodAll_cons hA;obtain⟨hr,hd,hq⟩:=trodAll_nil hA;obtain rfl:args= #[v0,v1,v2,v3,v4,v5]:=by apply Array.ext';simp only[hv0,hv1,hv2,hv3,hv4,hv5,hr]
 obtain rfl:ds=[d0,d1,d2,d3,d4,d5]:=by simp only[hd0,hd1,hd2,hd3,hd4,hd5,hd]
 obtain⟨rfl,rfl⟩:=trodVars_none hV;simp only[List.append_nil]at hW' hlt;obtain⟨a0,ok0,ra0⟩:=Rdb.cell (c:=(cL (eI .i64))) (Rdb.slice Tryz.underlying22 (by kernel_rfl) (by kernel_rfl) (Rdb.int Tryz.underlying3 (by kernel_rfl))) (by kernel_rfl) (hval 0 _ _ rfl rfl) t0
 obtain⟨a1,ok1,ra1⟩:=Rdb.cell (c:=(cI .i64)) (Rdb.int Tryz.underlying3 (by kernel_rfl)) (by kernel_rfl) (hval 1 _ _ rfl rfl) t1
 obtain⟨a2,ok2,ra2⟩:=Rdb.cell (c:=(cL eB)) (Rdb.slice Tryz.underlying46 (by kernel_rfl) (by kernel_rfl) (Rdb.bool Tryz.underlying4 (by kernel_rfl))) (by kernel_rfl) (hval 2 _ _ rfl rfl) t2
 obtain⟨a3,ok3,ra3⟩:=Rdb.cell (c:=(cL eNear)) (Rdb.slice Tryz.underlying27 (by kernel_rfl) (by kernel_rfl) rdNear) (by kernel_rfl) (hval 3 _ _ rfl rfl) t3
 obtain⟨a4,ok4,ra4⟩:=Rdb.cell (c:=(cL eClaim)) (Rdb.slice Tryz.underlying49 (by kernel_rfl) (by kernel_rfl) rdClaim) (by kernel_rfl) (hval 4 _ _ rfl rfl) t4
 obtain⟨a5,ok5,ra5⟩:=Rdb.cell (c:=(cI .i64)) (Rdb.int Tryz.underlying3 (by kernel_rfl)) (by kernel_rfl) (hval 5 _ _ rfl rfl) t5
 refine(law_top (law_originRoutes a0 a1 a2 a3 a4 a5 ok0 ok1 ok2 ok3 ok4 ok5) W (globsOk hL) _ ⟨_,_,rfl,ra0,⟨_,_,rfl,ra1,⟨_,_,rfl,ra2,⟨_,_,rfl,ra3,⟨_,_,rfl,ra4,⟨_,_,rfl,ra5,rfl⟩⟩⟩⟩⟩⟩).mono fun e W' ⟨he,hg⟩=>?_
 subst he;exact⟨_,rfl,post_of_below (pa:=p) (pv:=[]) hW' (fun _ _ _=>(trodAll_cons_mk (shut_bool Tryz.underlying4 _) trodAll_mk0))
  (fun sp hsp=>trodAll_kept laid maps (slices_full_of _ slices) hg (fun t ht=>Nat.le_of_ble_eq_true (List.all_eq_true.1 inTable t ht)) hAll hlt hsp) (fun _ _=>rfl) (by simp)
  hg (ok_one (by kernel_rfl) rfl (okWide_bool_mk Tryz.underlying4 _))⟩
noncomputable def laidWorld(os:Os):World:=
 {World.holding Tryz.prog os ⟨#[],#[.slice none 0 0,.int .i64 0,.slice none 0 0,.slice none 0 0,.slice none 0 0,.int .i64 0],[]⟩with heap:=(World.holding Tryz.prog os ⟨#[],#[.slice none 0 0,.int .i64 0,.slice none 0 0,.slice none 0 0,.slice none 0 0,.int .i64 0],[]⟩).heap.modify 0 fun
  | .cells _ t frozen=>.cells kv.toArray t frozen
  |o=>o}
theorem laid_met(os:Os):laidMet Tryz.prog Rows.originRoutesRow.laid ((laidWorld os).forCall (fun _ _=>0) ⟨#[],#[.slice none 0 0,.int .i64 0,.slice none 0 0,.slice none 0 0,.slice none 0 0,.int .i64 0],[]⟩).memory:=
 laidMet_of_run' 8 (by kernel_rfl) (by kernel_rfl)
theorem reads(os:Os){H:Type}(enc:TypeId×Value→H):∃x,DataW.whole enc Tryz.prog ((laidWorld os).forCall (fun _ _=>0) ⟨#[],#[.slice none 0 0,.int .i64 0,.slice none 0 0,.slice none 0 0,.slice none 0 0,.int .i64 0],[]⟩).memory Tryz.f6.params.toList Rows.originRoutesSpec.vars false (#[.slice none 0 0,.int .i64 0,.slice none 0 0,.slice none 0 0,.slice none 0 0,.int .i64 0]:Array Value).toList 8=some x:=by
 have h:(DataW.whole enc Tryz.prog ((laidWorld os).forCall (fun _ _=>0) ⟨#[],#[.slice none 0 0,.int .i64 0,.slice none 0 0,.slice none 0 0,.slice none 0 0,.int .i64 0],[]⟩).memory Tryz.f6.params.toList Rows.originRoutesSpec.vars false (#[.slice none 0 0,.int .i64 0,.slice none 0 0,.slice none 0 0,.slice none 0 0,.int .i64 0]:Array Value).toList 8).isSome=true:=by kernel_rfl
 exact Option.isSome_iff_exists.1 h
set_option maxRecDepth 100000 in
theorem lifted(os:Os)(started:os.Started)(H:Type)(enc:TypeId×Value→H)(F:Stop.Interp):
 ReturnsInHanded {} Tryz.checked os 6 .any ((OpenSpec.ofChange Rows.originRoutesSpec).preRow enc Tryz.prog Tryz.f6 Rows.originRoutesRow.domain false Rows.originRoutesRow.laid) (((OpenSpec.ofChange Rows.originRoutesSpec).at F).post enc Tryz.prog Tryz.f6 false true false false):=by
 obtain⟨x,hx⟩:=reads os enc;refine returnsInHanded_of_row (C:=Tryz.checked) (s:=OpenSpec.ofChange Rows.originRoutesSpec) own started (by kernel_rfl) Tryz.func6
  (witness_row_at (enc:=enc) (C:=Tryz.checked) false (laidWorld os) #[.slice none 0 0,.int .i64 0,.slice none 0 0,.slice none 0 0,.slice none 0 0,.int .i64 0] rfl (by kernel_rfl) (by kernel_rfl) (by kernel_rfl)
   (OpenSpec.preRow_of_cond 8 hx (by kernel_rfl) (fun k hk=>by cases hk) (by kernel_rfl) (laid_met os))) ?_
 intro W base args ds gs before hval hW _ _ _ hL _ _;exact contract H enc W base args ds gs before hval hW hL
theorem said:Rows.OriginRoutesSaid:=
 OpenClaim.holds_of_cond 6 Tryz.f6 rfl rfl rfl rfl rfl rfl rfl ⟨rfl,rfl,rfl,rfl,rfl⟩ rfl rfl rfl rfl rfl (by kernel_rfl) Tryz.func6 closed
  (of_decide_eq_true (by kernel_rfl)) (by unfold Func.isWrapper;first | (rw[if_pos (by decide+kernel)];kernel_rfl) | (rw[if_neg (by decide+kernel)];exact⟨rfl,rfl⟩))
  (fun os started H enc _ F=>by rw[OpenClaim.pre_eq_preRow];exact lifted os started H enc F)
theorem plain(f:FuncId)(fn:Func)(hf:Tryz.pinned.checked.prog.funcNamed Rows.originRoutesRow.func=some f)(hfn:Tryz.pinned.checked.prog.funcs[f]? =some fn):
 true=Tryz.pinned.checked.prog.looks []∧∀(j:Nat) t,fn.params[j]? =some t→Tryz.pinned.checked.prog.wantsStandIn t=false:=by
 obtain rfl:f=6:=Option.some.inj ((show Tryz.prog.funcNamed Rows.originRoutesRow.func=some 6 by kernel_rfl).symm.trans hf) |>.symm
 obtain rfl:fn=Tryz.f6:=(Option.some.inj (Tryz.func6.symm.trans hfn)).symm;refine⟨by kernel_rfl,fun j t ht=>?_⟩
 have:=List.all_eq_true.1 noStand t (Array.mem_toList_iff.2 (Array.mem_of_getElem? ht));have h2:Tryz.prog.wantsStandIn t=false:=by simpa using this
 exact h2
theorem card:Rows.OriginRoutesCardSaid:=
 Claim7.holds_tied_plain_at .later [] _ _ _ _ said (fun _ h=>by cases h) m1 (fun _ h=>by cases h) originRoutes_row_tie rfl ⟨rfl,rfl⟩ m2 rfl plain m3
end Go.Proofs.YtdbkafoghoenoaaGreatDoor.originRoutes
