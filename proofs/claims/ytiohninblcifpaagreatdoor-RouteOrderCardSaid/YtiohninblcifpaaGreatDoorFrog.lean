/- RouteOrder: the table does not depend on the order of routes with different keys, it is ascending, with at most one hop for each tenant and prefix; for any fabric of the kit, leaf, ports and routes; the card, tied to the program's text. No conditions. -/
import Derived.Test.YtiohninblcifpaaGreatDoorRo
import Derived.Test.YtiohninblcifpaaGreatDoorRd
import Derived.Test.YtiohninblcifpaaGreatDoorFroq
import Derived.Test.YtiohninblcifpaaGreatDoorAd
import Derived.Test.YtiohninblcifpaaGreatDoorAc
import Derived.Test.YtiohninblcifpaaGreatDoorRows
import Derived.Test.YtiohninblcifpaaGreatDoorCards
import Derived.Test.YtiohninblcifpaaGreatDoorTie
import Derived.Deep.DeepHandedRow
import Derived.Lib.LaidTab
set_option linter.unusedVariables false
set_option maxRecDepth 100000
namespace Go.L
open Go.AM
theorem wf_u8{n:Int}(h:(Go.Lit.int .u8 n).wf=true):0≤n∧n<256:=by
 simp[Go.Lit.wf]at h;have e1:Go.IntKind.min .u8=0:=rfl;have e2:Go.IntKind.max .u8=255:=rfl;omega
theorem wf_u32{n:Int}(h:(Go.Lit.int .u32 n).wf=true):0≤n∧n<4294967296:=by
 simp[Go.Lit.wf]at h;have e1:Go.IntKind.min .u32=0:=rfl;have e2:Go.IntKind.max .u32=4294967295:=rfl;omega
theorem G0(l:List Int)(s:Int)(u:List Bool)(rs:List aK)(t:Int)(h0:∀a∈l,(Go.Lit.int .i64 a).wf=true)(h1:(Go.Lit.int .i64 s).wf=true)(h2:∀a∈u,True)(h3:∀x∈rs,Lv x)(h4:(Go.Lit.int .i64 t).wf=true):
 kr prog 3 [.av (l.map (eI .i64)),.sc (.int .i64 s),.av (u.map eB),.av (rs.map aL),.sc (.int .i64 t)] (.ret (.sc (.bool true))):=by
 obtain⟨b,hb,rfl⟩:=Ip 5000 (Nat.le_refl _) P3 l s u rs t fun r hr=>by
  obtain⟨n1,n2,n3,n4,n5,n6,n7,n8,n9⟩:=(h3 r hr).1;exact⟨wf_u32 n6,wf_u32 n8.1⟩
 exact xO.ok 5000 (l,s,u,rs,t) true hb
end Go.L
namespace Go.Proofs.YtiohninblcifpaaGreatDoor.routeOrder
open Go.ChangeShapes Go.WideShapes Go.ChangeAt Go.RowKit Go.AM Go.L
def kv:List Value:=[(1,0,2),(2,3,12),(3,6,0),(4,6,1),(5,6,2),(6,6,3),(7,6,6)].flatMap fun(p:Int×Int×Int)=>[.int .i64 p.1,.int .u8 p.2.1,.int .u8 p.2.2]
def kk:List Kd:=(List.replicate 7 [.int .i64,.int .u8,.int .u8]).flatten
theorem Ri{W:World}(h:laidMet Tryz.prog Rows.routeOrderRow.laid W):pE (Gh.bare W) W:=by
 refine Nr (P := Tryz.prog) (name := "leafmesh/comm.kinds") (g := 0) (vs := kv) (by kernel_rfl) (LY (g := 0) (t := 322) (ks := kk) (by kernel_rfl) (by kernel_rfl) (by kernel_rfl) (by kernel_rfl) h) (by kernel_rfl) fun i cs hi => ?_
 match i,hi with
 | 0,hi=>exact⟨rfl,(Option.some.inj hi).symm⟩
theorem own:ownKnob Tryz.prog.godebug=none:=by kernel_rfl
theorem slices:((List.range Tryz.prog.types.size).all fun t=>match Tryz.prog.underlying t with |some (.slice e)=>decide (0<Tryz.prog.cellsOf e) |_=>true)=true:=by kernel_rfl
theorem maps:mapsRowed Tryz.prog=true:=by kernel_rfl
theorem Rj:(Tryz.f3.params.toList.all fun t=>Nat.ble (t+1) Tryz.prog.types.size)=true:=by kernel_rfl
set_option maxRecDepth 100000 in
theorem contract(H:Type)(enc:TypeId×Value→H)(W:World)(base:Nat)(args:Array Value)(ds gs:List (DataW H))(before:List MemPlace)
 (hval:∀(j:Nat) t v,Tryz.f3.params[j]? =some t→args[j]? =some v→Value.okWide Tryz.prog W .any base t v)
 (hW:DataW.Whole enc Tryz.prog Tryz.f3.params.toList Rows.routeOrderSpec.vars false W args.toList ds gs before) (hL:laidMetH Tryz.prog Rows.routeOrderRow.laid W):
 Calls Tryz.prog 3 args W fun e W'=>∃v,e=.returned v∧Rows.routeOrderSpec.post enc Tryz.prog Tryz.f3 false true false false W args v W':=by
 have hW':=hW;have hlt:=hW.lt;obtain⟨p,q,hA0,hV,rfl,hfz,hnd⟩:=hW;have hA:DataW.TrodAll enc Tryz.prog W 0 (fun _=>true) true Tryz.f3.params.toList args.toList ds p:=hA0
 clear hA0;have hAll:=hA;rw[Tryz.params3]at hA hval;obtain⟨v0,r0,d0,e0,p0,q0,hv0,hd0,hp0,t0,hA⟩:=trodAll_cons hA;obtain⟨v1,r1,d1,e1,p1,q1,hv1,hd1,hp1,t1,hA⟩:=trodAll_cons hA;obtain⟨v2,r2,d2,e2,p2,q2,hv2,hd2,hp2,t2,hA⟩:=trodAll_cons hA;obtain⟨v3,r3,d3,e3,p3,q3,hv3,hd3,hp3,t3,hA⟩:=trodAll_cons hA;obtain⟨v4,r4,d4,e4,p4,q4,hv4,hd4,hp4,t4,hA⟩:=trodAll_cons hA;obtain⟨hr,hd,hq⟩:=trodAll_nil hA;obtain rfl:args= #[v0,v1,v2,v3,v4]:=by apply Array.ext';simp only[hv0,hv1,hv2,hv3,hv4,hr]
 obtain rfl:ds=[d0,d1,d2,d3,d4]:=by simp only[hd0,hd1,hd2,hd3,hd4,hd]
 obtain⟨rfl,rfl⟩:=trodVars_none hV;simp only[List.append_nil]at hW' hlt;obtain⟨a0,ok0,ra0⟩:=dO.cell (c:=(cL (eI .i64))) (dO.slice Tryz.underlying22 (by kernel_rfl) (by kernel_rfl) (dO.int Tryz.underlying3 (by kernel_rfl))) (by kernel_rfl) (hval 0 _ _ rfl rfl) t0
 obtain⟨a1,ok1,ra1⟩:=dO.cell (c:=(cI .i64)) (dO.int Tryz.underlying3 (by kernel_rfl)) (by kernel_rfl) (hval 1 _ _ rfl rfl) t1
 obtain⟨a2,ok2,ra2⟩:=dO.cell (c:=(cL eB)) (dO.slice Tryz.underlying23 (by kernel_rfl) (by kernel_rfl) (dO.bool Tryz.underlying4 (by kernel_rfl))) (by kernel_rfl) (hval 2 _ _ rfl rfl) t2
 obtain⟨a3,ok3,ra3⟩:=dO.cell (c:=(cL aL)) (dO.slice Tryz.underlying24 (by kernel_rfl) (by kernel_rfl) Rg) (by kernel_rfl) (hval 3 _ _ rfl rfl) t3
 obtain⟨a4,ok4,ra4⟩:=dO.cell (c:=(cI .i64)) (dO.int Tryz.underlying3 (by kernel_rfl)) (by kernel_rfl) (hval 4 _ _ rfl rfl) t4
 refine(QI (G0 a0 a1 a2 a3 a4 ok0 ok1 ok2 ok3 ok4) W (Ri hL) _ ⟨_,_,rfl,ra0,⟨_,_,rfl,ra1,⟨_,_,rfl,ra2,⟨_,_,rfl,ra3,⟨_,_,rfl,ra4,rfl⟩⟩⟩⟩⟩).mono fun e W' ⟨he,hg⟩=>?_
 subst he;exact⟨_,rfl,H9 (pa:=p) (pv:=[]) hW' (fun _ _ _=>(trodAll_cons_mk (shut_bool Tryz.underlying4 _) trodAll_mk0))
  (fun sp hsp=>Jn laid maps (slices_full_of _ slices) hg (fun t ht=>Nat.le_of_ble_eq_true (List.all_eq_true.1 Rj t ht)) hAll hlt hsp) (fun _ _=>rfl) (by simp)
  hg (ok_one (by kernel_rfl) rfl (okWide_bool_mk Tryz.underlying4 _))⟩
noncomputable def Ag(os:Os):World:=
 {World.holding Tryz.prog os ⟨#[],#[.slice none 0 0,.int .i64 0,.slice none 0 0,.slice none 0 0,.int .i64 0],[]⟩with heap:=(World.holding Tryz.prog os ⟨#[],#[.slice none 0 0,.int .i64 0,.slice none 0 0,.slice none 0 0,.int .i64 0],[]⟩).heap.modify 0 fun
  | .cells _ t frozen=>.cells kv.toArray t frozen
  |o=>o}
theorem Qb(os:Os):laidMet Tryz.prog Rows.routeOrderRow.laid ((Ag os).forCall (fun _ _=>0) ⟨#[],#[.slice none 0 0,.int .i64 0,.slice none 0 0,.slice none 0 0,.int .i64 0],[]⟩).memory:=
 laidMet_of_run' 8 (by kernel_rfl) (by kernel_rfl)
theorem reads(os:Os){H:Type}(enc:TypeId×Value→H):∃x,DataW.whole enc Tryz.prog ((Ag os).forCall (fun _ _=>0) ⟨#[],#[.slice none 0 0,.int .i64 0,.slice none 0 0,.slice none 0 0,.int .i64 0],[]⟩).memory Tryz.f3.params.toList Rows.routeOrderSpec.vars false (#[.slice none 0 0,.int .i64 0,.slice none 0 0,.slice none 0 0,.int .i64 0]:Array Value).toList 8=some x:=by
 have h:(DataW.whole enc Tryz.prog ((Ag os).forCall (fun _ _=>0) ⟨#[],#[.slice none 0 0,.int .i64 0,.slice none 0 0,.slice none 0 0,.int .i64 0],[]⟩).memory Tryz.f3.params.toList Rows.routeOrderSpec.vars false (#[.slice none 0 0,.int .i64 0,.slice none 0 0,.slice none 0 0,.int .i64 0]:Array Value).toList 8).isSome=true:=by kernel_rfl
 exact Option.isSome_iff_exists.1 h
set_option maxRecDepth 100000 in
theorem lifted(os:Os)(started:os.Started)(H:Type)(enc:TypeId×Value→H)(F:Stop.Interp):
 ReturnsInHanded {} Tryz.checked os 3 .any ((OpenSpec.ofChange Rows.routeOrderSpec).preRow enc Tryz.prog Tryz.f3 Rows.routeOrderRow.domain false Rows.routeOrderRow.laid) (((OpenSpec.ofChange Rows.routeOrderSpec).at F).post enc Tryz.prog Tryz.f3 false true false false):=by
 obtain⟨x,hx⟩:=reads os enc;refine returnsInHanded_of_row (C:=Tryz.checked) (s:=OpenSpec.ofChange Rows.routeOrderSpec) own started (by kernel_rfl) Tryz.func3
  (witness_row_at (enc:=enc) (C:=Tryz.checked) false (Ag os) #[.slice none 0 0,.int .i64 0,.slice none 0 0,.slice none 0 0,.int .i64 0] rfl (by kernel_rfl) (by kernel_rfl) (by kernel_rfl)
   (OpenSpec.preRow_of_cond 8 hx (by kernel_rfl) (fun k hk=>by cases hk) (by kernel_rfl) (Qb os))) ?_
 intro W base args ds gs before hval hW _ _ _ hL _ _;exact contract H enc W base args ds gs before hval hW hL
theorem said:Rows.RouteOrderSaid:=
 OpenClaim.holds_of_cond 3 Tryz.f3 rfl rfl rfl rfl rfl rfl rfl ⟨rfl,rfl,rfl,rfl,rfl⟩ rfl rfl rfl rfl rfl (by kernel_rfl) Tryz.func3 closed
  (of_decide_eq_true (by kernel_rfl)) (by unfold Func.isWrapper;first | (rw[if_pos (by decide+kernel)];kernel_rfl) | (rw[if_neg (by decide+kernel)];exact⟨rfl,rfl⟩))
  (fun os started H enc _ F=>by rw[OpenClaim.pre_eq_preRow];exact lifted os started H enc F)
theorem plain(f:FuncId)(fn:Func)(hf:Tryz.pinned.checked.prog.funcNamed Rows.routeOrderRow.func=some f)(hfn:Tryz.pinned.checked.prog.funcs[f]? =some fn):
 true=Tryz.pinned.checked.prog.looks []∧∀(j:Nat) t,fn.params[j]? =some t→Tryz.pinned.checked.prog.wantsStandIn t=false:=by
 obtain rfl:f=3:=Option.some.inj ((show Tryz.prog.funcNamed Rows.routeOrderRow.func=some 3 by kernel_rfl).symm.trans hf) |>.symm
 obtain rfl:fn=Tryz.f3:=(Option.some.inj (Tryz.func3.symm.trans hfn)).symm;refine⟨by kernel_rfl,fun j t ht=>?_⟩
 have:=List.all_eq_true.1 Rh t (Array.mem_toList_iff.2 (Array.mem_of_getElem? ht));have h2:Tryz.prog.wantsStandIn t=false:=by simpa using this
 exact h2
theorem card:Rows.RouteOrderCardSaid:=
 Claim7.holds_tied_plain_at .later [] _ _ _ _ said (fun _ h=>by cases h) m1 (fun _ h=>by cases h) routeOrder_row_tie rfl ⟨rfl,rfl⟩ m2 rfl plain m3
end Go.Proofs.YtiohninblcifpaaGreatDoor.routeOrder
