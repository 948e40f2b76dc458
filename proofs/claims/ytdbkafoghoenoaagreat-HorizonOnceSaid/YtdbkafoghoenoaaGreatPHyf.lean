/- HorizonOnce, as it is said: for every input the function returns true. No conditions. -/
import Derived.Test.YtdbkafoghoenoaaGreatPi
import Derived.Test.YtdbkafoghoenoaaGreatRdH
import Derived.Test.YtdbkafoghoenoaaGreatAd
import Derived.Test.YtdbkafoghoenoaaGreatAc
import Derived.Test.YtdbkafoghoenoaaGreatRows
import Derived.Deep.DeepHandedRow
set_option linter.unusedVariables false
namespace Go.L
open Go.AM
theorem law_horizonOnce(l ports:List Int)(ch sg mb dm:Int)(h0:∀a∈l,(Go.Lit.int .i64 a).wf=true)(h1:∀a∈ports,(Go.Lit.int .i64 a).wf=true)(h2:(Go.Lit.int .i64 ch).wf=true)(h3:(Go.Lit.int .i64 sg).wf=true)(h4:(Go.Lit.int .i64 mb).wf=true)(h5:(Go.Lit.int .i64 dm).wf=true):
 FnVal prog 4 [.lst (l.map (eI .i64)),.lst (ports.map (eI .i64)),.sc (.int .i64 ch),.sc (.int .i64 sg),.sc (.int .i64 mb),.sc (.int .i64 dm)] (.ret (.sc (.bool true))):=by
 obtain⟨r,h,hr⟩:=once_law 6000 (by omega) l ports ch sg mb dm
 subst hr;exact c_law27_HorizonOnce.ok 6000 (l,ports,ch,sg,mb,dm) true h
end Go.L
namespace Go.Proofs.YtdbkafoghoenoaaGreat.horizonOnce
open Go.ChangeShapes Go.WideShapes Go.ChangeAt Go.RowKit Go.AM Go.L
theorem own:ownKnob Tryz.prog.godebug=none:=by kernel_rfl
theorem slices:((List.range Tryz.prog.types.size).all fun t=>match Tryz.prog.underlying t with |some (.slice e)=>decide (0<Tryz.prog.cellsOf e) |_=>true)=true:=by kernel_rfl
theorem maps:mapsRowed Tryz.prog=true:=by kernel_rfl
theorem inTable:(Tryz.f4.params.toList.all fun t=>Nat.ble (t+1) Tryz.prog.types.size)=true:=by kernel_rfl
set_option maxRecDepth 100000 in
theorem contract(H:Type)(enc:TypeId×Value→H)(W:World)(base:Nat)(args:Array Value)(ds gs:List (DataW H))(before:List MemPlace)
 (hval:∀(j:Nat) t v,Tryz.f4.params[j]? =some t→args[j]? =some v→Value.okWide Tryz.prog W .any base t v)
 (hW:DataW.Whole enc Tryz.prog Tryz.f4.params.toList Rows.horizonOnceSpec.vars false W args.toList ds gs before):
 Calls Tryz.prog 4 args W fun e W'=>∃v,e=.returned v∧Rows.horizonOnceSpec.post enc Tryz.prog Tryz.f4 false true false false W args v W':=by
 have hW':=hW;have hlt:=hW.lt;obtain⟨p,q,hA0,hV,rfl,hfz,hnd⟩:=hW;have hA:DataW.TrodAll enc Tryz.prog W 0 (fun _=>true) true Tryz.f4.params.toList args.toList ds p:=hA0
 clear hA0;have hAll:=hA;rw[Tryz.params4]at hA hval;obtain⟨v0,r0,d0,e0,p0,q0,hv0,hd0,hp0,t0,hA⟩:=trodAll_cons hA;obtain⟨v1,r1,d1,e1,p1,q1,hv1,hd1,hp1,t1,hA⟩:=trodAll_cons hA;obtain⟨v2,r2,d2,e2,p2,q2,hv2,hd2,hp2,t2,hA⟩:=trodAll_cons hA;obtain⟨v3,r3,d3,e3,p3,q3,hv3,hd3,hp3,t3,hA⟩:=trodAll_cons hA;obtain⟨v4,r4,d4,e4,p4,q4,hv4,hd4,hp4,t4,hA⟩:=trodAll_cons hA;obtain⟨v5,r5,d5,e5,p5,q5,hv5,hd5,hp5,t5,hA⟩:=trodAll_cons hA;obtain⟨hr,hd,hq⟩:=trodAll_nil hA;obtain rfl:args= #[v0,v1,v2,v3,v4,v5]:=by apply Array.ext';simp only[hv0,hv1,hv2,hv3,hv4,hv5,hr]
 obtain rfl:ds=[d0,d1,d2,d3,d4,d5]:=by simp only[hd0,hd1,hd2,hd3,hd4,hd5,hd]
 obtain⟨rfl,rfl⟩:=trodVars_none hV;simp only[List.append_nil]at hW' hlt;obtain⟨a0,ok0,ra0⟩:=Rdb.cell (c:=(cL (eI .i64))) (Rdb.slice Tryz.underlying22 (by kernel_rfl) (by kernel_rfl) (Rdb.int Tryz.underlying3 (by kernel_rfl))) (by kernel_rfl) (hval 0 _ _ rfl rfl) t0
 obtain⟨a1,ok1,ra1⟩:=Rdb.cell (c:=(cL (eI .i64))) (Rdb.slice Tryz.underlying22 (by kernel_rfl) (by kernel_rfl) (Rdb.int Tryz.underlying3 (by kernel_rfl))) (by kernel_rfl) (hval 1 _ _ rfl rfl) t1
 obtain⟨a2,ok2,ra2⟩:=Rdb.cell (c:=(cI .i64)) (Rdb.int Tryz.underlying3 (by kernel_rfl)) (by kernel_rfl) (hval 2 _ _ rfl rfl) t2
 obtain⟨a3,ok3,ra3⟩:=Rdb.cell (c:=(cI .i64)) (Rdb.int Tryz.underlying3 (by kernel_rfl)) (by kernel_rfl) (hval 3 _ _ rfl rfl) t3
 obtain⟨a4,ok4,ra4⟩:=Rdb.cell (c:=(cI .i64)) (Rdb.int Tryz.underlying3 (by kernel_rfl)) (by kernel_rfl) (hval 4 _ _ rfl rfl) t4
 obtain⟨a5,ok5,ra5⟩:=Rdb.cell (c:=(cI .i64)) (Rdb.int Tryz.underlying3 (by kernel_rfl)) (by kernel_rfl) (hval 5 _ _ rfl rfl) t5
 refine(law_top (law_horizonOnce a0 a1 a2 a3 a4 a5 ok0 ok1 ok2 ok3 ok4 ok5) W (fun _ _ h=>by cases h) _ ⟨_,_,rfl,ra0,⟨_,_,rfl,ra1,⟨_,_,rfl,ra2,⟨_,_,rfl,ra3,⟨_,_,rfl,ra4,⟨_,_,rfl,ra5,rfl⟩⟩⟩⟩⟩⟩).mono fun e W' ⟨he,hg⟩=>?_
 subst he;exact⟨_,rfl,post_of_below (pa:=p) (pv:=[]) hW' (fun _ _ _=>(trodAll_cons_mk (shut_bool Tryz.underlying4 _) trodAll_mk0))
  (fun sp hsp=>trodAll_kept laid maps (slices_full_of _ slices) hg (fun t ht=>Nat.le_of_ble_eq_true (List.all_eq_true.1 inTable t ht)) hAll hlt hsp) (fun _ _=>rfl) (by simp)
  hg (ok_one (by kernel_rfl) rfl (okWide_bool_mk Tryz.underlying4 _))⟩
set_option maxRecDepth 100000 in
theorem lifted(os:Os)(started:os.Started)(H:Type)(enc:TypeId×Value→H):
 ReturnsInHanded {} Tryz.checked os 4 .any (Rows.horizonOnceSpec.pre6 enc Tryz.prog Tryz.f4 Rows.horizonOnceRow.domain false) (Rows.horizonOnceSpec.post enc Tryz.prog Tryz.f4 false true false false):=by
 refine returnsInHanded_of_change (C:=Tryz.checked) (s:=Rows.horizonOnceSpec) own started (by kernel_rfl) Tryz.func4
  (ChangeSpec.witness6 (enc:=enc) (C:=Tryz.checked) (s:=Rows.horizonOnceSpec) false ⟨#[],#[.slice none 0 0,.slice none 0 0,.int .i64 0,.int .i64 0,.int .i64 0,.int .i64 0],[]⟩ 8 (by kernel_rfl) (by kernel_rfl) (by kernel_rfl) (by kernel_rfl) (by kernel_rfl)) ?_
 intro W base args ds gs before hval hW _ _;exact contract H enc W base args ds gs before hval hW
theorem proved:Rows.HorizonOnceSaid:=
 OpenClaim.holds_of_wide 4 Tryz.f4 rfl rfl rfl rfl rfl rfl rfl ⟨rfl,rfl,rfl,rfl,rfl⟩ rfl rfl rfl rfl rfl (by kernel_rfl) Tryz.func4 (by kernel_rfl)
  (of_decide_eq_true (by kernel_rfl)) (by unfold Func.isWrapper;first | (rw[if_pos (by decide+kernel)];kernel_rfl) | (rw[if_neg (by decide+kernel)];exact⟨rfl,rfl⟩))
  (fun os started H enc _=>lifted os started H enc)
end Go.Proofs.YtdbkafoghoenoaaGreat.horizonOnce
