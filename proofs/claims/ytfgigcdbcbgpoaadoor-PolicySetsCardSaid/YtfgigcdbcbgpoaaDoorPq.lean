/- Put together out of parts. No conditions. -/
import Derived.Test.YtfgigcdbcbgpoaaDoorPm
import Derived.Test.YtfgigcdbcbgpoaaDoorWq
import Derived.Test.YtfgigcdbcbgpoaaDoorWo
import Derived.Test.YtfgigcdbcbgpoaaDoorAmSi
/- What the functions compute, each told by a guide that the kernel checks against the program. No conditions. -/
namespace Go.L
open Go.AM
set_option maxRecDepth 100000
set_option linter.unusedVariables false
set_option linter.unusedSimpArgs false
def cfgQ : Cfg := { val := fun f => ![52,60,61,62,63,67,76,77,80,85,86,90,97,109,110,114,115,116,117,118,119,121,122,139,140,142,143,144,153].contains f, kill := fun _ _ => [] }
/- policy.Apply, handed a row of rules that is nobody's behind the call -/
noncomputable def c_policy_Apply_d : Ctr1 prog := Ctr1.dead c_policy_Apply Go.L.Route Go.L.Rule 15 eRule (fun x => [.agg (eRoute x)]) (fun l x => (l, x)) (fun _ _ => rfl) (fun _ => rfl) (fun _ => rfl) (fun _ => rfl) (fun _ _ => rfl)

/- leafmesh/policy.Matches -/
noncomputable def g_policy_Matches (x1 : Go.L.Rule) (x2 : Go.L.Route) : G prog (Sh.El (.one Bool)) :=
  .skip 8 <| .call c_comm_Targets x2.A.Comms fun (r3 : (List Int)) => .call c_policy_matches (x1, x2, r3) fun (r4 : Bool) => .skip 1 <| .done [] r4
noncomputable def c_policy_Matches : Ctr prog := Ctr.of cfgQ 10 55 (Go.L.Rule × Go.L.Route) (fun x => [.agg (eRule x.1), .agg (eRoute x.2)]) (.one Bool) (fun r => .ret (.sc (.bool r))) (fun x => g_policy_Matches x.1 x.2) (fun x => by kernel_rfl)

/- leafmesh/leafmeshkit.LightRoute -/
noncomputable def g_kit_LightRoute (x1 : Go.L.Route) : G prog (Sh.El (.one Bool)) :=
  .skip 5 <| .op (lenO x1.A.Path (Go.AM.eI .u32)) fun _ => .skip 2 <| .br 8 (decide ((((List.length x1.A.Path) : Nat) : Int) ≤ (40 : Int))) (.skip 3 <| .op (lenO x1.A.Clusters (Go.AM.eI .u32)) fun _ => .skip 3 <| .br 15 (decide ((((List.length x1.A.Clusters) : Nat) : Int) ≤ (20 : Int))) (.skip 3 <| .op (lenO x1.A.Comms (Go.AM.eV8 (Go.AM.cI .u8))) fun _ => .skip 3 <| .done [] (decide ((((List.length x1.A.Comms) : Nat) : Int) ≤ (80 : Int)))) (.skip 7 <| .done [] false)) (.skip 14 <| .done [] false)
noncomputable def c_kit_LightRoute : Ctr prog := Ctr.of cfgQ 10 101 (Go.L.Route) (fun x => [.agg (eRoute x)]) (.one Bool) (fun r => .ret (.sc (.bool r))) (fun x => g_kit_LightRoute x) (fun x => by kernel_rfl)

/- leafmesh/leafmeshkit.LightRoutes -/
noncomputable def g_kit_LightRoutes (x1 : (List Go.L.Route)) (x2 : Int) : G prog (Sh.El (.one Bool)) :=
  .skip 2 <| .loop (.two (.one Unit) (.one Unit)) [.keep [0, 1, 5]] (fun (a : Int) => ⟨[(.lst (List.map Go.L.eRoute x1)), (.sc (.int .i64 x2)), .junk, .junk, .junk, .sc (.int .i64 a)] ++ List.replicate 16 .junk, [], []⟩)
    (Sum.elim (fun (_ : Unit) => (.ret, ⟨List.replicate 4 .junk ++ [(.sc (.bool false))] ++ List.replicate 17 .junk, [], []⟩)) (fun (_ : Unit) => (.exit 0, ⟨[(.lst (List.map Go.L.eRoute x1)), (.sc (.int .i64 x2))] ++ List.replicate 20 .junk, [], []⟩))) (0 : Int)
    (fun (a3 : Int) => .skip 2 <| .op (lenO x1 Go.L.eRoute) fun _ => .skip 1 <| .br 9 (decide (a3 < (((List.length x1) : Nat) : Int))) (.skip 3 <| .op (idxO x1 Go.L.eRoute 38 a3) fun x4 => .skip 1 <| .call c_kit_LightRoute x4 fun (r5 : Bool) => .skip 1 <| .br 17 (!r5) (.skip 2 <| .done [.keep [4]] (.inr (.inl ()))) (.skip 4 <| .done [.keep [0, 1, 5]] (.inl (Go.IntKind.wrap .i64 (a3 + (1 : Int)))))) (.skip 1 <| .done [.keep [0, 1]] (.inr (.inr ()))))
    (Sum.elim (fun _ => .done [] false) (fun _ => .skip 1 <| .op (lenO x1 Go.L.eRoute) fun _ => .skip 3 <| .done [] (decide ((((List.length x1) : Nat) : Int) ≤ x2))))
noncomputable def c_kit_LightRoutes : Ctr prog := Ctr.of cfgQ 10 84 ((List Go.L.Route) × Int) (fun x => [.lst (x.1.map eRoute), .sc (.int .i64 x.2)]) (.one Bool) (fun r => .ret (.sc (.bool r))) (fun x => g_kit_LightRoutes x.1 x.2) (fun x => by kernel_rfl)

/- leafmesh/leafmeshlaw19.light -/
noncomputable def g_law19_light (x1 : (List Go.L.Rule)) (x2 : (List Go.L.Import)) (x3 : (List Go.L.Route)) : G prog (Sh.El (.one Bool)) :=
  .skip 2 <| .loop (.two (.one Unit) (.one Unit)) [.keep [0, 1, 2, 7]] (fun (a : Int) => ⟨[(.lst (List.map Go.L.eRule x1)), (.lst (List.map Go.L.eImport x2)), (.lst (List.map Go.L.eRoute x3))] ++ List.replicate 4 .junk ++ [.sc (.int .i64 a)] ++ List.replicate 52 .junk, [], []⟩)
    (Sum.elim (fun (_ : Unit) => (.ret, ⟨List.replicate 6 .junk ++ [(.sc (.bool false))] ++ List.replicate 53 .junk, [], []⟩)) (fun (_ : Unit) => (.exit 0, ⟨[(.lst (List.map Go.L.eRule x1)), (.lst (List.map Go.L.eImport x2)), (.lst (List.map Go.L.eRoute x3))] ++ List.replicate 57 .junk, [], []⟩))) (0 : Int)
    (fun (a4 : Int) => .skip 2 <| .op (lenO x1 Go.L.eRule) fun _ => .skip 1 <| .br 11 (decide (a4 < (((List.length x1) : Nat) : Int))) (.skip 3 <| .op (idxO x1 Go.L.eRule 15 a4) fun x5 => .skip 2 <| .op (lenO x5.Kinds (Go.AM.eI .i64)) fun _ => .skip 2 <| .br 21 (decide ((((List.length x5.Kinds) : Nat) : Int) > (10 : Int))) (.skip 28 <| .done [.keep [6]] (.inr (.inl ()))) (.skip 2 <| .op (idxO x1 Go.L.eRule 15 a4) fun x7 => .skip 2 <| .op (lenO x7.Targets (Go.AM.eI .u32)) fun _ => .skip 3 <| .br 30 (decide ((((List.length x7.Targets) : Nat) : Int) > (10 : Int))) (.skip 19 <| .done [.keep [6]] (.inr (.inl ()))) (.skip 2 <| .op (idxO x1 Go.L.eRule 15 a4) fun x9 => .skip 2 <| .op (lenO x9.Add (Go.AM.eV8 (Go.AM.cI .u8))) fun _ => .skip 3 <| .br 39 (decide ((((List.length x9.Add) : Nat) : Int) > (80 : Int))) (.skip 10 <| .done [.keep [6]] (.inr (.inl ()))) (.skip 2 <| .op (idxO x1 Go.L.eRule 15 a4) fun x11 => .skip 2 <| .op (lenO x11.Remove (Go.AM.eV8 (Go.AM.cI .u8))) fun _ => .skip 2 <| .br 47 (decide ((((List.length x11.Remove) : Nat) : Int) > (40 : Int))) (.skip 2 <| .done [.keep [6]] (.inr (.inl ()))) (.skip 4 <| .done [.keep [0, 1, 2, 7]] (.inl (Go.IntKind.wrap .i64 (a4 + (1 : Int))))))))) (.skip 1 <| .done [.keep [0, 1, 2]] (.inr (.inr ()))))
    (Sum.elim (fun _ => .done [] false) (fun _ => .skip 1 <| .op (lenO x1 Go.L.eRule) fun _ => .skip 2 <| .br 51 (decide ((((List.length x1) : Nat) : Int) ≤ (20 : Int))) (.skip 1 <| .op (lenO x2 Go.L.eImport) fun _ => .skip 3 <| .br 56 (decide ((((List.length x2) : Nat) : Int) ≤ (30 : Int))) (.skip 1 <| .call c_kit_LightRoutes (x3, (20 : Int)) fun (r18 : Bool) => .skip 2 <| .done [] r18) (.skip 4 <| .done [] false)) (.skip 9 <| .done [] false)))
noncomputable def c_law19_light : Ctr prog := Ctr.of cfgQ 10 51 ((List Go.L.Rule) × (List Go.L.Import) × (List Go.L.Route)) (fun x => [.lst (x.1.map eRule), .lst (x.2.1.map eImport), .lst (x.2.2.map eRoute)]) (.one Bool) (fun r => .ret (.sc (.bool r))) (fun x => g_law19_light x.1 x.2.1 x.2.2) (fun x => by kernel_rfl)

/- leafmesh/leafmeshkit.Own[uint32] -/
noncomputable def g_kit_Own_uint32 (x1 : (List Int)) : G prog (Sh.El (.one (List Int))) :=
  .skip 3 <| .op (appO 0 [] x1 (eI .u32) 1 4 0 0 1 []) fun _ => .skip 1 <| .done [.frz (fzRow (.s 2) 0 1 1 (List.length ([] ++ x1)) ([] ++ x1) (Go.AM.eI .u32) fun _ => rfl)] ([] ++ x1)
noncomputable def c_kit_Own_uint32 : Ctr prog := Ctr.of cfgQ 10 94 ((List Int)) (fun x => [.lst (x.map (eI .u32))]) (.one (List Int)) (fun r => .ret (.lst (r.map (eI .u32)))) (fun x => g_kit_Own_uint32 x) (fun x => by kernel_rfl)

/- leafmesh/leafmeshkit.Own[leafmesh/api.IP] -/
noncomputable def g_kit_Own_IP (x1 : (List Int)) : G prog (Sh.El (.one (List Int))) :=
  .skip 3 <| .op (appO 0 [] x1 (eI .u32) 1 4 0 0 1 []) fun _ => .skip 1 <| .done [.frz (fzRow (.s 2) 0 1 1 (List.length ([] ++ x1)) ([] ++ x1) (Go.AM.eI .u32) fun _ => rfl)] ([] ++ x1)
noncomputable def c_kit_Own_IP : Ctr prog := Ctr.of cfgQ 10 111 ((List Int)) (fun x => [.lst (x.map (eI .u32))]) (.one (List Int)) (fun r => .ret (.lst (r.map (eI .u32)))) (fun x => g_kit_Own_IP x) (fun x => by kernel_rfl)

/- leafmesh/leafmeshkit.Own[leafmesh/api.Comm] -/
noncomputable def g_kit_Own_Comm (x1 : (List (Go.AM.V8 Int))) : G prog (Sh.El (.one (List (Go.AM.V8 Int)))) :=
  .skip 3 <| .op (appO 0 [] x1 (eV8 (cI .u8)) 8 8 0 0 1 []) fun _ => .skip 1 <| .done [.frz (fzRow (.s 2) 0 1 8 (List.length ([] ++ x1)) ([] ++ x1) (Go.AM.eV8 (Go.AM.cI .u8)) fun _ => rfl)] ([] ++ x1)
noncomputable def c_kit_Own_Comm : Ctr prog := Ctr.of cfgQ 10 31 ((List (Go.AM.V8 Int))) (fun x => [.lst (x.map (eV8 (cI .u8)))]) (.one (List (Go.AM.V8 Int))) (fun r => .ret (.lst (r.map (eV8 (cI .u8))))) (fun x => g_kit_Own_Comm x) (fun x => by kernel_rfl)

/- leafmesh/leafmeshkit.OwnAttrs -/
noncomputable def g_kit_OwnAttrs (x1 : Go.L.Attrs) : G prog (Sh.El (.one Go.L.Attrs)) :=
  .skip 4 <| .call c_kit_Own_uint32 x1.Path fun (r2 : (List Int)) => .skip 2 <| .call c_kit_Own_IP x1.Clusters fun (r3 : (List Int)) => .skip 2 <| .call c_kit_Own_Comm x1.Comms fun (r4 : (List (Go.AM.V8 Int))) => .skip 8 <| .done [] (Go.L.Attrs.mk x1.Origin r2 x1.Next x1.HasMed x1.Med x1.HasPref x1.Pref x1.HasOriginator x1.Originator r3 r4 x1.Tunnel)
noncomputable def c_kit_OwnAttrs : Ctr prog := Ctr.of cfgQ 10 91 (Go.L.Attrs) (fun x => [.agg (eAttrs x)]) (.one Go.L.Attrs) (fun r => .ret (.agg (eAttrs r))) (fun x => g_kit_OwnAttrs x) (fun x => by kernel_rfl)

/- leafmesh/leafmeshkit.OwnRoute -/
noncomputable def g_kit_OwnRoute (x1 : Go.L.Route) : G prog (Sh.El (.one Go.L.Route)) :=
  .skip 4 <| .call c_kit_OwnAttrs x1.A fun (r2 : Go.L.Attrs) => .skip 4 <| .done [] (Go.L.Route.mk x1.N r2 x1.Peer x1.Stale)
noncomputable def c_kit_OwnRoute : Ctr prog := Ctr.of cfgQ 10 53 (Go.L.Route) (fun x => [.agg (eRoute x)]) (.one Go.L.Route) (fun r => .ret (.agg (eRoute r))) (fun x => g_kit_OwnRoute x) (fun x => by kernel_rfl)

/- leafmesh/leafmeshkit.Same[uint32] -/
noncomputable def g_kit_Same_uint32 (x1 : (List Int)) (x2 : (List Int)) : G prog (Sh.El (.one Bool)) :=
  .skip 2 <| .op (lenO x1 (Go.AM.eI .u32)) fun _ => .skip 1 <| .op (lenO x2 (Go.AM.eI .u32)) fun _ => .skip 1 <| .br 10 ((((List.length x1) : Nat) : Int) != (((List.length x2) : Nat) : Int)) (.skip 2 <| .done [] false) (.skip 2 <| .loop (.two (.one Unit) (.one Unit)) [.keep [0, 1, 5]] (fun (a : Int) => ⟨[(.lst (List.map (Go.AM.eI .u32) x1)), (.lst (List.map (Go.AM.eI .u32) x2)), .junk, .junk, .junk, .sc (.int .i64 a)] ++ List.replicate 20 .junk, [], []⟩)
    (Sum.elim (fun (_ : Unit) => (.ret, ⟨List.replicate 4 .junk ++ [(.sc (.bool false))] ++ List.replicate 21 .junk, [], []⟩)) (fun (_ : Unit) => (.exit 0, ⟨List.replicate 26 .junk, [], []⟩))) (0 : Int)
    (fun (a4 : Int) => .skip 2 <| .op (lenO x1 (Go.AM.eI .u32)) fun _ => .skip 1 <| .br 14 (decide (a4 < (((List.length x1) : Nat) : Int))) (.skip 3 <| .op (idxO x1 (Go.AM.eI .u32) 1 a4) fun x5 => .skip 3 <| .op (idxO x2 (Go.AM.eI .u32) 1 a4) fun x6 => .skip 2 <| .br 25 (x5 != x6) (.skip 2 <| .done [.keep [4]] (.inr (.inl ()))) (.skip 4 <| .done [.keep [0, 1, 5]] (.inl (Go.IntKind.wrap .i64 (a4 + (1 : Int)))))) (.skip 1 <| .done [.keep []] (.inr (.inr ()))))
    (Sum.elim (fun _ => .done [] false) (fun _ => .skip 1 <| .done [] true)))
noncomputable def c_kit_Same_uint32 : Ctr prog := Ctr.of cfgQ 10 38 ((List Int) × (List Int)) (fun x => [.lst (x.1.map (eI .u32)), .lst (x.2.map (eI .u32))]) (.one Bool) (fun r => .ret (.sc (.bool r))) (fun x => g_kit_Same_uint32 x.1 x.2) (fun x => by kernel_rfl)

/- leafmesh/leafmeshkit.Same[leafmesh/api.IP] -/
noncomputable def g_kit_Same_IP (x1 : (List Int)) (x2 : (List Int)) : G prog (Sh.El (.one Bool)) :=
  .skip 2 <| .op (lenO x1 (Go.AM.eI .u32)) fun _ => .skip 1 <| .op (lenO x2 (Go.AM.eI .u32)) fun _ => .skip 1 <| .br 10 ((((List.length x1) : Nat) : Int) != (((List.length x2) : Nat) : Int)) (.skip 2 <| .done [] false) (.skip 2 <| .loop (.two (.one Unit) (.one Unit)) [.keep [0, 1, 5]] (fun (a : Int) => ⟨[(.lst (List.map (Go.AM.eI .u32) x1)), (.lst (List.map (Go.AM.eI .u32) x2)), .junk, .junk, .junk, .sc (.int .i64 a)] ++ List.replicate 20 .junk, [], []⟩)
    (Sum.elim (fun (_ : Unit) => (.ret, ⟨List.replicate 4 .junk ++ [(.sc (.bool false))] ++ List.replicate 21 .junk, [], []⟩)) (fun (_ : Unit) => (.exit 0, ⟨List.replicate 26 .junk, [], []⟩))) (0 : Int)
    (fun (a4 : Int) => .skip 2 <| .op (lenO x1 (Go.AM.eI .u32)) fun _ => .skip 1 <| .br 14 (decide (a4 < (((List.length x1) : Nat) : Int))) (.skip 3 <| .op (idxO x1 (Go.AM.eI .u32) 1 a4) fun x5 => .skip 3 <| .op (idxO x2 (Go.AM.eI .u32) 1 a4) fun x6 => .skip 2 <| .br 25 (x5 != x6) (.skip 2 <| .done [.keep [4]] (.inr (.inl ()))) (.skip 4 <| .done [.keep [0, 1, 5]] (.inl (Go.IntKind.wrap .i64 (a4 + (1 : Int)))))) (.skip 1 <| .done [.keep []] (.inr (.inr ()))))
    (Sum.elim (fun _ => .done [] false) (fun _ => .skip 1 <| .done [] true)))
noncomputable def c_kit_Same_IP : Ctr prog := Ctr.of cfgQ 10 112 ((List Int) × (List Int)) (fun x => [.lst (x.1.map (eI .u32)), .lst (x.2.map (eI .u32))]) (.one Bool) (fun r => .ret (.sc (.bool r))) (fun x => g_kit_Same_IP x.1 x.2) (fun x => by kernel_rfl)

/- leafmesh/leafmeshkit.SameAttrs -/
noncomputable def g_kit_SameAttrs (x1 : Go.L.Attrs) (x2 : Go.L.Attrs) : G prog (Sh.El (.one Bool)) :=
  .skip 9 <| .br 10 (x1.Origin == x2.Origin) (.skip 4 <| .call c_kit_Same_uint32 (x1.Path, x2.Path) fun (r3 : Bool) => .skip 2 <| .br 17 r3 (.skip 7 <| .br 24 (x1.Next == x2.Next) (.skip 7 <| .br 31 (x1.HasMed == x2.HasMed) (.skip 7 <| .br 38 (x1.Med == x2.Med) (.skip 7 <| .br 45 (x1.HasPref == x2.HasPref) (.skip 7 <| .br 52 (x1.Pref == x2.Pref) (.skip 7 <| .br 59 (x1.HasOriginator == x2.HasOriginator) (.skip 7 <| .br 66 (x1.Originator == x2.Originator) (.skip 4 <| .call c_kit_Same_IP (x1.Clusters, x2.Clusters) fun (r4 : Bool) => .skip 2 <| .br 73 r4 (.skip 4 <| .call c_kit_Same_Comm (x1.Comms, x2.Comms) fun (r5 : Bool) => .skip 2 <| .br 80 r5 (.skip 7 <| .done [] ((x1.Tunnel.Kind == x2.Tunnel.Kind) && ((x1.Tunnel.Label == x2.Tunnel.Label) && ((x1.Tunnel.Root == x2.Tunnel.Root) && ((x1.Tunnel.Group == x2.Tunnel.Group) && true))))) (.skip 7 <| .done [] false)) (.skip 14 <| .done [] false)) (.skip 21 <| .done [] false)) (.skip 28 <| .done [] false)) (.skip 35 <| .done [] false)) (.skip 42 <| .done [] false)) (.skip 49 <| .done [] false)) (.skip 56 <| .done [] false)) (.skip 63 <| .done [] false)) (.skip 70 <| .done [] false)) (.skip 77 <| .done [] false)
noncomputable def c_kit_SameAttrs : Ctr prog := Ctr.of cfgQ 10 92 (Go.L.Attrs × Go.L.Attrs) (fun x => [.agg (eAttrs x.1), .agg (eAttrs x.2)]) (.one Bool) (fun r => .ret (.sc (.bool r))) (fun x => g_kit_SameAttrs x.1 x.2) (fun x => by kernel_rfl)

/- leafmesh/leafmeshkit.SameRoute -/
noncomputable def g_kit_SameRoute (x1 : Go.L.Route) (x2 : Go.L.Route) : G prog (Sh.El (.one Bool)) :=
  .skip 9 <| .br 10 ((x1.N.Kind == x2.N.Kind) && ((x1.N.RD == x2.N.RD) && ((x1.N.ESI.a0 == x2.N.ESI.a0) && ((x1.N.ESI.a1 == x2.N.ESI.a1) && ((x1.N.ESI.a2 == x2.N.ESI.a2) && ((x1.N.ESI.a3 == x2.N.ESI.a3) && ((x1.N.ESI.a4 == x2.N.ESI.a4) && ((x1.N.ESI.a5 == x2.N.ESI.a5) && ((x1.N.ESI.a6 == x2.N.ESI.a6) && ((x1.N.ESI.a7 == x2.N.ESI.a7) && ((x1.N.ESI.a8 == x2.N.ESI.a8) && ((x1.N.ESI.a9 == x2.N.ESI.a9) && ((x1.N.Tag == x2.N.Tag) && ((x1.N.MAC == x2.N.MAC) && ((x1.N.IP == x2.N.IP) && ((x1.N.HasIP == x2.N.HasIP) && ((x1.N.Prefix.IP == x2.N.Prefix.IP) && ((x1.N.Prefix.Len == x2.N.Prefix.Len) && ((x1.N.Gateway == x2.N.Gateway) && ((x1.N.Label == x2.N.Label) && ((x1.N.Label2 == x2.N.Label2) && true))))))))))))))))))))) (.skip 4 <| .call c_kit_SameAttrs (x1.A, x2.A) fun (r3 : Bool) => .skip 2 <| .br 17 r3 (.skip 7 <| .br 24 (x1.Peer == x2.Peer) (.skip 7 <| .done [] (x1.Stale == x2.Stale)) (.skip 7 <| .done [] false)) (.skip 14 <| .done [] false)) (.skip 21 <| .done [] false)
noncomputable def c_kit_SameRoute : Ctr prog := Ctr.of cfgQ 10 54 (Go.L.Route × Go.L.Route) (fun x => [.agg (eRoute x.1), .agg (eRoute x.2)]) (.one Bool) (fun r => .ret (.sc (.bool r))) (fun x => g_kit_SameRoute x.1 x.2) (fun x => by kernel_rfl)

end Go.L
/- What the functions compute, each told by a guide that the kernel checks against the program. No conditions. -/
namespace Go.L
open Go.AM
set_option maxRecDepth 100000
set_option linter.unusedVariables false
set_option linter.unusedSimpArgs false
def cfgF : Cfg := { val := fun f => ![52,56,60,61,62,63,67,76,77,80,85,86,90,97,109,110,114,115,116,117,118,119,121,122,139,140,142,143,144,153].contains f, kill := fun _ _ => [] }
/-- A rule whose empty lists are nil. -/
def nilL {α : Type} (e : α → List AVal) : List α → AVal
  | [] => .sc (.slice none 0 0)
  | x :: xs => .lst ((x :: xs).map e)
theorem nilL_wk {α : Type} (e : α → List AVal) (l : List α) : Wk1 (nilL e l) (.lst (l.map e)) := by
  cases l with
  | nil => exact .inr ⟨rfl, rfl⟩
  | cons x xs => exact .inl rfl
theorem nilL_pure {α : Type} (e : α → List AVal) (l : List α) : (nilL e l).pure = true := by
  cases l <;> rfl
def eRuleN (x : Rule) : List AVal := [nilL (eI .i64) x.Kinds, nilL (eI .u32) x.Targets, .sc (.int .u32 x.Peer), .sc (.bool x.HasPrefix), .sc (.int .u32 x.Prefix.IP), .sc (.int .i64 x.Prefix.Len), .sc (.int .i64 x.Ge), .sc (.int .i64 x.Le), .sc (.bool x.Permit), .sc (.bool x.SetPref), .sc (.int .u32 x.Pref), .sc (.bool x.SetMed), .sc (.int .u32 x.Med), nilL (eV8 (cI .u8)) x.Remove, nilL (eV8 (cI .u8)) x.Add]
theorem eRuleN_wk (v : Rule) : WkC (eRuleN v) (eRule v) :=
  ⟨nilL_wk _ _, nilL_wk _ _, .inl rfl, .inl rfl, .inl rfl, .inl rfl, .inl rfl, .inl rfl, .inl rfl, .inl rfl, .inl rfl, .inl rfl, .inl rfl, nilL_wk _ _, nilL_wk _ _, trivial⟩
noncomputable def c_policy_Apply_d2 : Ctr1 prog := Ctr1.dead2 c_policy_Apply Go.L.Route Go.L.Rule 15 eRule eRuleN (fun x => [.agg (eRoute x)]) (fun l x => (l, x)) (fun _ _ => rfl) (fun _ => rfl) (fun v => by simp [eRuleN, AVal.pureL, nilL_pure]; exact ⟨rfl, rfl, rfl, rfl, rfl, rfl, rfl, rfl, rfl, rfl, rfl⟩) eRuleN_wk (fun _ => rfl) (fun _ => rfl) (fun _ _ => rfl)

/- policy.Apply, called with memory of which nothing can be come to -/
noncomputable def cv_policy_Apply (n : Nat) : CtrR prog := CtrR.apart c_policy_Apply (fun _ => rfl) (fun _ => rfl) n

/- leafmesh/leafmeshkit.Own[int] -/
noncomputable def g_kit_Own_int (x1 : (List Int)) : G prog (Sh.El (.one (List Int))) :=
  .skip 3 <| .op (appO 0 [] x1 (eI .i64) 1 8 0 0 1 []) fun _ => .skip 1 <| .done [.frz (fzRow (.s 2) 0 1 1 (List.length ([] ++ x1)) ([] ++ x1) (Go.AM.eI .i64) fun _ => rfl)] ([] ++ x1)
noncomputable def c_kit_Own_int : Ctr prog := Ctr.of cfgF 10 93 ((List Int)) (fun x => [.lst (x.map (eI .i64))]) (.one (List Int)) (fun r => .ret (.lst (r.map (eI .i64)))) (fun x => g_kit_Own_int x) (fun x => by kernel_rfl)

end Go.L
