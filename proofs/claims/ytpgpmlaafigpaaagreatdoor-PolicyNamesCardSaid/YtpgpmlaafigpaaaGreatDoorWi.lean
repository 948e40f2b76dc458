/- Put together out of parts. No conditions. -/
import Derived.Test.YtpgpmlaafigpaaaGreatDoorWt
import Derived.Test.YtpgpmlaafigpaaaGreatDoorWl
import Derived.Test.YtpgpmlaafigpaaaGreatDoorTy
import Derived.Test.YtpgpmlaafigpaaaGreatDoorAmMp
import Derived.Test.YtpgpmlaafigpaaaGreatDoorAmSh
import Derived.Test.YtpgpmlaafigpaaaGreatDoorAmOn
import Derived.Test.YtpgpmlaafigpaaaGreatDoorAmPl
import Derived.Test.YtpgpmlaafigpaaaGreatDoorAmRu
/- What the functions compute, each told by a guide that the kernel checks against the program. No conditions. -/
namespace Go.L
open Go.AM
set_option maxRecDepth 100000
set_option linter.unusedVariables false
set_option linter.unusedSimpArgs false
def cfgI : Cfg := { val := fun f => ![113,114,115,116,117,118,119,126,196,197,198,102,103,104,105,187,188,189,270,106,190,272,273,274,275,276,277,278,279,362,363,364,365,366,136,137,138,139,215,213,290,214,291,373,374,375,376,377,378,379,380,77,78,168,166,249,167,250,323,324,325,326,327,328,330,331,392,393,394,162,246,315,316,317,318,319,320,321,322,389,390,391,161,381,382,289,288,360,163,15,16].contains f, kill := fun _ _ => [] }
def vfwim10 (v : Int) : AVal := .sc (.int .i64 v)
def vfwim12 (v : S158) : AVal := .agg (eS158 v)
def prMwim14 (b : Nat) (m : List (Int × S158)) : PR := prMap b m vfwim10 vfwim12 (fun _ => rfl) fun _ => rfl
def puMwim15 (b : Nat) (m : List (Int × S158)) : PU := puMap b m vfwim10 vfwim12 (fun _ => rfl) fun _ => rfl
def puRwim16 (b ver sz : Nat) (l : List Int) : PU := puRow b ver sz l (eI .i64) fun _ => rfl
/- leafmesh/policy.Prefix -/
noncomputable def g_policy_Prefix (x1 : Go.L.Route) : G prog (Sh.El (.one (Prod Go.L.Prefix Bool))) :=
  .skip 8 <| .br 4 (x1.N.Kind == (5 : Int)) (.skip 6 <| .done [] (x1.N.Prefix, true)) (.skip 6 <| .br 17 (x1.N.Kind == (2 : Int)) (.skip 5 <| .br 12 x1.N.HasIP (.skip 7 <| .done [] ((Go.L.Prefix.mk x1.N.IP (32 : Int)), true)) (.skip 4 <| .done [] ((Go.L.Prefix.mk (0 : Int) (0 : Int)), false))) (.skip 9 <| .done [] ((Go.L.Prefix.mk (0 : Int) (0 : Int)), false)))
noncomputable def c_policy_Prefix : Ctr prog := Ctr.of cfgI 10 22 (Go.L.Route) (fun x => [.agg (eRoute x)]) (.one (Prod Go.L.Prefix Bool)) (fun r => .ret (.tup [.agg (ePrefix r.1), .sc (.bool r.2)])) (fun x => g_policy_Prefix x) (fun x => by kernel_rfl)

/- slices.isNaN[uint32] -/
noncomputable def g_slices_isNaN_uint32 (x1 : Int) : G prog (Sh.El (.one Bool)) :=
  .skip 5 <| .done [] (x1 != x1)
noncomputable def c_slices_isNaN_uint32 : Ctr prog := Ctr.of cfgI 10 248 (Int) (fun x => [.sc (.int .u32 x)]) (.one Bool) (fun r => .ret (.sc (.bool r))) (fun x => g_slices_isNaN_uint32 x) (fun x => by kernel_rfl)

/- slices.BinarySearch[[]uint32,uint32] -/
noncomputable def g_slices_BinarySearch_uint32_uint32 (x1 : (List Int)) (x2 : Int) : G prog (Sh.El (.one (Prod Int Bool))) :=
  .skip 3 <| .op (lenO x1 (Go.AM.eI .u32)) fun _ => .skip 4 <| .loop (.one Int) [.keep [0, 1, 6, 7, 8]] (fun (a : (Prod Int Int)) => ⟨(ap [(.lst (List.map (Go.AM.eI .u32) x1)), (.sc (.int .u32 x2))] (ap (jl 4) (ap [(.sc (.int .i64 (((List.length x1) : Nat) : Int))), .sc (.int .i64 a.1), .sc (.int .i64 a.2)] (jl 45)))), [], []⟩)
    (fun (t : Int) => (.exit 0, ⟨(ap [(.lst (List.map (Go.AM.eI .u32) x1)), (.sc (.int .u32 x2))] (ap (jl 4) (ap [(.sc (.int .i64 (((List.length x1) : Nat) : Int))), .sc (.int .i64 t)] (jl 46)))), [], []⟩)) ((0 : Int), (((List.length x1) : Nat) : Int))
    (fun (a3 : (Prod Int Int)) => .skip 3 <| .br 15 (decide (a3.1 < a3.2)) (.skip 10 <| .op (idxO x1 (Go.AM.eI .u32) 1 (Go.IntKind.wrap .i64 (Int.fdiv (Go.IntKind.wrap .u64 (Go.IntKind.wrap .i64 (a3.1 + a3.2))) ((2 : Int) ^ (@Min.min Nat instMinNat (Int.toNat (1 : Int)) (Go.IntKind.bits .u64)))))) fun x4 => .skip 2 <| .call c_cmp_Less_uint32 (x4, x2) fun (r5 : Bool) => .br 27 r5 (.skip 4 <| .done [.keep [0, 1, 6, 7, 8]] (.inl ((Go.IntKind.wrap .i64 ((Go.IntKind.wrap .i64 (Int.fdiv (Go.IntKind.wrap .u64 (Go.IntKind.wrap .i64 (a3.1 + a3.2))) ((2 : Int) ^ (@Min.min Nat instMinNat (Int.toNat (1 : Int)) (Go.IntKind.bits .u64))))) + (1 : Int))), a3.2))) (.skip 3 <| .done [.keep [0, 1, 6, 7, 8]] (.inl (a3.1, (Go.IntKind.wrap .i64 (Int.fdiv (Go.IntKind.wrap .u64 (Go.IntKind.wrap .i64 (a3.1 + a3.2))) ((2 : Int) ^ (@Min.min Nat instMinNat (Int.toNat (1 : Int)) (Go.IntKind.bits .u64))))))))) (.skip 1 <| .done [.keep [0, 1, 6, 7]] (.inr a3.1)))
    (fun (t9 : Int) => .skip 5 <| .br 35 (decide (t9 < (((List.length x1) : Nat) : Int))) (.skip 2 <| .op (idxO x1 (Go.AM.eI .u32) 1 t9) fun x10 => .skip 4 <| .br 42 (x10 == x2) (.skip 13 <| .done [] (t9, true)) (.skip 2 <| .op (idxO x1 (Go.AM.eI .u32) 1 t9) fun x12 => .skip 1 <| .call c_slices_isNaN_uint32 x12 fun (r13 : Bool) => .skip 1 <| .br 48 r13 (.skip 1 <| .call c_slices_isNaN_uint32 x2 fun (r14 : Bool) => .skip 5 <| .done [] (t9, r14)) (.skip 7 <| .done [] (t9, false)))) (.skip 20 <| .done [] (t9, false)))
noncomputable def c_slices_BinarySearch_uint32_uint32 : Ctr prog := Ctr.of cfgI 10 164 ((List Int) × Int) (fun x => [.lst (x.1.map (eI .u32)), .sc (.int .u32 x.2)]) (.one (Prod Int Bool)) (fun r => .ret (.tup [.sc (.int .i64 r.1), .sc (.bool r.2)])) (fun x => g_slices_BinarySearch_uint32_uint32 x.1 x.2) (fun x => by kernel_rfl)

/- leafmesh/policy.has -/
noncomputable def g_policy_has (x1 : (List Int)) (x2 : Int) : G prog (Sh.El (.one Bool)) :=
  .skip 3 <| .call c_slices_BinarySearch_uint32_uint32 (x1, x2) fun (r3 : (Prod Int Bool)) => .skip 7 <| .done [] r3.2
noncomputable def c_policy_has : Ctr prog := Ctr.of cfgI 10 75 ((List Int) × Int) (fun x => [.lst (x.1.map (eI .u32)), .sc (.int .u32 x.2)]) (.one Bool) (fun r => .ret (.sc (.bool r))) (fun x => g_policy_has x.1 x.2) (fun x => by kernel_rfl)

/- leafmesh/addr.Covers -/
noncomputable def g_addr_Covers (x1 : Go.L.Prefix) (x2 : Go.L.Prefix) : G prog (Sh.El (.one Bool)) :=
  .skip 4 <| .call c_addr_valid x1 fun (r3 : Bool) => .skip 1 <| .br 7 r3 (.skip 1 <| .call c_addr_valid x2 fun (r4 : Bool) => .skip 2 <| .br 11 r4 (.skip 7 <| .br 18 (decide (x1.Len ≤ x2.Len)) (.skip 3 <| .call c_addr_Contains (x1, x2.IP) fun (r5 : Bool) => .skip 2 <| .done [] r5) (.skip 6 <| .done [] false)) (.skip 13 <| .done [] false)) (.skip 17 <| .done [] false)
noncomputable def c_addr_Covers : Ctr prog := Ctr.of cfgI 10 76 (Go.L.Prefix × Go.L.Prefix) (fun x => [.agg (ePrefix x.1), .agg (ePrefix x.2)]) (.one Bool) (fun r => .ret (.sc (.bool r))) (fun x => g_addr_Covers x.1 x.2) (fun x => by kernel_rfl)

/- slices.Sorted[int] -/
noncomputable def g_slices_Sorted_int (x1 : (List (Prod Int Go.L.S158))) : G prog (Sh.El (.one (Prod Nat (List Int)))) :=
  .skip 2 <| .inl [prMwim14 1 x1] <| .skip 2 <| .inl [prMwim14 1 x1] <| .skip 3 <| .inl [prMwim14 1 x1] <| .skip 2 <| .loop (.one (Prod (List Nat) (List Int))) [.keep [0, 5], .cut [5] [] [puMwim15 1 x1], .own (.b 2 0) 1] (fun (a : (Prod (List Nat) (List Int))) => ⟨(ap [(.yld 4)] (ap (jl 4) (ap [(.ptr 5 0 0 0)] (jl 8)))), [(.row 0 1 [[(.mp 1)]]), (.map (List.length x1) (Go.AM.encM vfwim10 vfwim12 0 x1)), .row 0 1 [[.sl 6 0 1 0 a.2.length]], .dead, (.loop Go.LoopState.ready (Option.none) (0 : Go.FuncId) [(.sc (.slice (Option.none) (0 : Nat) (0 : Nat))), (.fn (.func 168) [] [(.ptr 0 0 0 0)]), (.ptr 2 0 0 0), (.sc (.tuple (List.toArray []))), (.sc (.slice (Option.none) (0 : Nat) (0 : Nat))), (.sc (.tuple (List.toArray []))), (.fn (.func 168) [] [(.ptr 0 0 0 0)]), (.sc (.tuple (List.toArray []))), (.sc (.tuple (List.toArray []))), (.sc (.tuple (List.toArray []))), (.sc (.tuple (List.toArray []))), (.sc (.tuple (List.toArray []))), (.sc (.tuple (List.toArray [])))] [(7 : Nat)] (Go.Code.region (2 : Nat) (List.toArray [(Go.Oper.mk (Option.some (5 : Nat)) (Go.Op.assign (Go.Operand.tmp (7 : Nat))) (3 : Nat) "iter.go:51" (List.toArray []) (Option.none))]) false) (Go.Code.block (1 : Nat) (Go.Code.region (3 : Nat) (List.toArray [(Go.Oper.mk (Option.some (8 : Nat)) (Go.Op.load (45 : Nat) (Go.Operand.tmp (2 : Nat))) (45 : Nat) "iter.go:52" (List.toArray []) (Option.none)), (Go.Oper.mk (Option.some (9 : Nat)) (Go.Op.move (Go.Operand.tmp (5 : Nat))) (3 : Nat) "iter.go:52" (List.toArray []) (Option.none)), (Go.Oper.mk (Option.some (10 : Nat)) (Go.Op.buildSlice (45 : Nat) (1 : Nat) (List.toArray [((0 : Nat), (Go.Operand.tmp (9 : Nat)))])) (45 : Nat) "iter.go:52" (List.toArray [(Go.Edge.mk (1 : Nat) Go.Ground.data)]) (Option.none)), (Go.Oper.mk (Option.some (11 : Nat)) (Go.Op.call (Go.Call.mk (Go.Callee.builtin Go.Builtin.append) (List.toArray [(Go.Operand.tmp (8 : Nat)), (Go.Operand.tmp (10 : Nat))]) (List.toArray [(45 : Nat), (45 : Nat)]))) (45 : Nat) "iter.go:52" (List.toArray [(Go.Edge.mk (0 : Nat) Go.Ground.data), (Go.Edge.mk (2 : Nat) Go.Ground.data)]) (Option.none)), (Go.Oper.mk (Option.none) (Go.Op.store (45 : Nat) (Go.Operand.tmp (2 : Nat)) (Go.Operand.tmp (11 : Nat))) (0 : Nat) "iter.go:52" (List.toArray [(Go.Edge.mk (3 : Nat) Go.Ground.data), (Go.Edge.mk (3 : Nat) Go.Ground.chain), (Go.Edge.mk (0 : Nat) Go.Ground.phase), (Go.Edge.mk (1 : Nat) Go.Ground.phase), (Go.Edge.mk (2 : Nat) Go.Ground.phase), (Go.Edge.mk (3 : Nat) Go.Ground.phase)]) (Option.none))]) false))), .iter ((.mp 1)) ((List.length x1)) a.1 ((List.length x1)), .row 0 1 (a.2.map (eI .i64))], []⟩)
    (fun (t : (Prod (List Nat) (List Int))) => (.exit 0, ⟨(jl 14), [(.row 0 1 [[(.mp 1)]]), (.map (List.length x1) (Go.AM.encM vfwim10 vfwim12 0 x1)), .row 0 1 [[.sl 6 0 1 0 t.2.length]], .dead, (.loop Go.LoopState.ready (Option.none) (0 : Go.FuncId) [(.sc (.slice (Option.none) (0 : Nat) (0 : Nat))), (.fn (.func 168) [] [(.ptr 0 0 0 0)]), (.ptr 2 0 0 0), (.sc (.tuple (List.toArray []))), (.sc (.slice (Option.none) (0 : Nat) (0 : Nat))), (.sc (.tuple (List.toArray []))), (.fn (.func 168) [] [(.ptr 0 0 0 0)]), (.sc (.tuple (List.toArray []))), (.sc (.tuple (List.toArray []))), (.sc (.tuple (List.toArray []))), (.sc (.tuple (List.toArray []))), (.sc (.tuple (List.toArray []))), (.sc (.tuple (List.toArray [])))] [(7 : Nat)] (Go.Code.region (2 : Nat) (List.toArray [(Go.Oper.mk (Option.some (5 : Nat)) (Go.Op.assign (Go.Operand.tmp (7 : Nat))) (3 : Nat) "iter.go:51" (List.toArray []) (Option.none))]) false) (Go.Code.block (1 : Nat) (Go.Code.region (3 : Nat) (List.toArray [(Go.Oper.mk (Option.some (8 : Nat)) (Go.Op.load (45 : Nat) (Go.Operand.tmp (2 : Nat))) (45 : Nat) "iter.go:52" (List.toArray []) (Option.none)), (Go.Oper.mk (Option.some (9 : Nat)) (Go.Op.move (Go.Operand.tmp (5 : Nat))) (3 : Nat) "iter.go:52" (List.toArray []) (Option.none)), (Go.Oper.mk (Option.some (10 : Nat)) (Go.Op.buildSlice (45 : Nat) (1 : Nat) (List.toArray [((0 : Nat), (Go.Operand.tmp (9 : Nat)))])) (45 : Nat) "iter.go:52" (List.toArray [(Go.Edge.mk (1 : Nat) Go.Ground.data)]) (Option.none)), (Go.Oper.mk (Option.some (11 : Nat)) (Go.Op.call (Go.Call.mk (Go.Callee.builtin Go.Builtin.append) (List.toArray [(Go.Operand.tmp (8 : Nat)), (Go.Operand.tmp (10 : Nat))]) (List.toArray [(45 : Nat), (45 : Nat)]))) (45 : Nat) "iter.go:52" (List.toArray [(Go.Edge.mk (0 : Nat) Go.Ground.data), (Go.Edge.mk (2 : Nat) Go.Ground.data)]) (Option.none)), (Go.Oper.mk (Option.none) (Go.Op.store (45 : Nat) (Go.Operand.tmp (2 : Nat)) (Go.Operand.tmp (11 : Nat))) (0 : Nat) "iter.go:52" (List.toArray [(Go.Edge.mk (3 : Nat) Go.Ground.data), (Go.Edge.mk (3 : Nat) Go.Ground.chain), (Go.Edge.mk (0 : Nat) Go.Ground.phase), (Go.Edge.mk (1 : Nat) Go.Ground.phase), (Go.Edge.mk (2 : Nat) Go.Ground.phase), (Go.Edge.mk (3 : Nat) Go.Ground.phase)]) (Option.none))]) false))), .iter ((.mp 1)) ((List.length x1)) t.1 ((List.length x1)), .row 0 1 (t.2.map (eI .i64))], []⟩)) ([], [])
    (fun (a12 : (Prod (List Nat) (List Int))) => .pick (pkM 5 1 x1 vfwim10 vfwim12) a12.1 (pk (.skip 2 <| .done [.keep [], .cut [5, 6] [] [puMwim15 1 x1, puRwim16 6 0 1 a12.2]] (.inr (a12.1, a12.2))) fun i14 => .skip 2 <| .op (entO x1 vfwim10 vfwim12 5 1 a12.1 i14) fun e15 => .skip 4 <| .inl [prMwim14 1 x1, prRow 6 0 1 a12.2 ((Go.AM.eI .i64)) fun _ => rfl] <| .skip 4 <| .op (appO (List.length a12.2) a12.2 [e15.1] (eI .i64) 1 8 6 0 8 [7]) fun _ => .skip 1 <| .tidy [.keep [], .cut [] [] [puMwim15 1 x1, puRwim16 6 1 1 (a12.2 ++ [e15.1])]] <| .skip 2 <| .done [.keep [0, 5], .cut [5, 6] [] [puMwim15 1 x1, puRwim16 6 1 1 (a12.2 ++ [e15.1])]] (.inl ((a12.1 ++ [i14]), (a12.2 ++ [e15.1])))))
    (fun (t17 : (Prod (List Nat) (List Int))) => .tidy [.keep [], .cut [6] [] [puMwim15 1 x1, puRwim16 6 0 1 t17.2]] <| .inl [prMwim14 1 x1] <| .skip 2 <| .tidy [] <| .inl [prMwim14 1 x1] <| .skip 1 <| .tidy [.keep [2], .cut [5] [] [puMwim15 1 x1, puRwim16 5 0 1 t17.2]] <| .inl [prMwim14 1 x1] <| .skip 2 <| .call1 c_slices_Sort_int_int_r 2 0 [] t17.2 fun (r18 : (List Int)) => .skip 2 <| .tidy [.keep [2], .cut [2] [] [puMwim15 1 x1, puRwim16 2 0 1 r18]] <| .inl [prMwim14 1 x1] <| .done [] ((List.length t17.2), r18))
noncomputable def n_slices_Sorted_int : CtrMN prog := CtrMN.of cfgI 77 ((List (Prod Int Go.L.S158))) (fun x => [(.fn (.func 168) [] [(.ptr 0 0 0 0)])])
  (fun x => [.row 0 1 [[(.mp 1)]], .map (List.length x) (encM vfwim10 vfwim12 0 x)]) (.one (Prod Nat (List Int))) (fun r => .ret (.sl 2 0 1 0 r.1))
  (fun x r => [.row 0 1 [[(.mp 1)]], .map (List.length x) (encM vfwim10 vfwim12 0 x), .row 0 1 (List.map (eI .i64) r.2)]) (fun x => g_slices_Sorted_int x)
  { m := 2, pu := [1], puO := [1, 2], pus := fun x => [puMwim15 1 x], puOs := fun x r => [puMwim15 1 x, puRow 2 0 1 r.2 (eI .i64) fun _ => rfl], hl := fun _ => rfl, ho := fun _ => (fun _ => rfl), hp := fun _ => ⟨rfl, trivial⟩, hpu := fun _ => rfl, hq := fun _ => (fun _ => ⟨rfl, rfl, trivial⟩), hqu := fun _ => (fun _ => rfl), hf := (fun _ => rfl) } (fun x => by kernel_rfl)

end Go.L
/- Functions that answer at one amount of fuel, and so; guides node by node. No conditions. -/
namespace Go.AM
set_option linter.unusedVariables false

/-- It answers, and so. -/
def At {α : Type} (o : Option α) (p : α → Prop) : Prop := ∃ r, o = some r ∧ p r
theorem At.of {α : Type} {p : α → Prop} {o : Option α} {r : α} (e : o = some r) (h : p r) : At o p := ⟨r, e, h⟩
theorem At.mono {α : Type} {o : Option α} {p q : α → Prop} (h : At o p) (hp : ∀ r, p r → q r) : At o q := by
  obtain ⟨r, h1, h2⟩ := h
  exact ⟨r, h1, hp r h2⟩
theorem At.bind {α β : Type} {o : Option α} {g : α → Option β} {p : α → Prop} {q : β → Prop} (h : At o p) (hg : ∀ a, p a → At (g a) q) : At (o.bind g) q := by
  obtain ⟨a, h1, h2⟩ := h
  obtain ⟨b, h3, h4⟩ := hg a h2
  exact ⟨b, by rw [h1]; exact h3, h4⟩
theorem At.ite {α : Type} {c : Prop} [Decidable c] {f g : Option α} {p : α → Prop} (hf : c → At f p) (hg : ¬ c → At g p) : At (if c then f else g) p := by
  by_cases hc : c
  · rw [if_pos hc]; exact hf hc
  · rw [if_neg hc]; exact hg hc
/-- Out of a law that rewrites binds. -/
theorem At.eq {α : Type} {o : Option α} {r : α} (h : ∀ {β : Type} (k : α → Option β), o.bind k = k r) : At o fun x => x = r := by
  have := h (fun x => some x)
  cases o with
  | none => cases this
  | some y => exact ⟨y, rfl, Option.some.inj this⟩

/-- How a round may end. -/
def RoundAt {σ τ : Type} (I : σ → Prop) (m : σ → Nat) (p : τ → Prop) (a : σ) : σ ⊕ τ → Prop
  | .inl b => I b ∧ m b < m a
  | .inr t => p t

theorem At.iter {σ τ : Type} {body : σ → Option (σ ⊕ τ)} (I : σ → Prop) (m : σ → Nat) (p : τ → Prop) (h : ∀ a, I a → At (body a) (RoundAt I m p a)) :
    ∀ (M : Nat) (a : σ), I a → m a < M → At (iterO body M a) p
  | 0, a, _, hm => absurd hm (Nat.not_lt_zero _)
  | M + 1, a, hI, hm => by
    obtain ⟨r, h1, h2⟩ := h a hI
    cases r with
    | inl b =>
      obtain ⟨t, h3, h4⟩ := At.iter I m p h M b h2.1 (by have := h2.2; omega)
      exact ⟨t, by simp only [iterO, h1]; exact h3, h4⟩
    | inr t => exact ⟨t, by simp only [iterO, h1], h2⟩

section
variable {P : Program} [Globs] {ρ : Type} {n : Nat} {p : ρ → Prop}
def AtG (n : Nat) (g : G P ρ) (p : ρ → Prop) : Prop := At (g.run n) p
theorem AtG.skip {m : Nat} {g : G P ρ} (h : AtG n g p) : AtG n (.skip m g) p := h
theorem AtG.br {d : Tmp} {c : Bool} {t f : G P ρ} (ht : c = true → AtG n t p) (hf : c = false → AtG n f p) : AtG n (.br d c t f) p :=
  At.ite (f := t.run n) (g := f.run n) ht (fun h => hf (by simpa using h))
theorem AtG.sp {c : Bool} {t f : G P ρ} (ht : c = true → AtG n t p) (hf : c = false → AtG n f p) : AtG n (.sp c t f) p :=
  At.ite (f := t.run n) (g := f.run n) ht (fun h => hf (by simpa using h))
theorem AtG.call {c : Ctr P} {x : c.X} {k : c.sh.El → G P ρ} (q : c.sh.El → Prop) (h : At (c.S n x) q) (hk : ∀ r, q r → AtG n (k r) p) : AtG n (.call c x k) p :=
  At.bind (g := fun r => (k r).run n) h hk
theorem AtG.callR {c : CtrR P} {x : c.X} {k : c.sh.El → G P ρ} (q : c.sh.El → Prop) (h : At (c.S n x) q) (hk : ∀ r, q r → AtG n (k r) p) : AtG n (.callR c x k) p :=
  At.bind (g := fun r => (k r).run n) h hk
theorem AtG.call1 {c : Ctr1 P} {b v : Nat} {ex : List PR} {x : c.X} {k : c.sh.El → G P ρ} (q : c.sh.El → Prop) (h : At (c.S n x) q) (hk : ∀ r, q r → AtG n (k r) p) : AtG n (.call1 c b v ex x k) p :=
  At.bind (g := fun r => (k r).run n) h hk
theorem AtG.op {X : Type} {t : OpT X} {k : X → G P ρ} (x : X) (h : t.run = some x) (hk : AtG n (k x) p) : AtG n (.op t k) p :=
  At.bind (o := t.run) (g := fun x => (k x).run n) (p := fun y => y = x) ⟨x, h, rfl⟩ (fun a ha => by subst ha; exact hk)
theorem AtG.done {ts : List TS} {r : ρ} (ht : tsOk ts = true) (h : p r) : AtG (P := P) n (.done ts r) p :=
  ⟨r, by show (if tsOk ts = true then some r else none) = _; rw [if_pos ht], h⟩
theorem AtG.tidy {ts : List TS} {g : G P ρ} (ht : tsOk ts = true) (h : AtG n g p) : AtG n (.tidy ts g) p := by
  obtain ⟨r, h1, h2⟩ := h
  exact ⟨r, by show (if tsOk ts = true then g.run n else none) = _; rw [if_pos ht]; exact h1, h2⟩
theorem AtG.inl {pr : List PR} {g : G P ρ} (h : AtG n g p) : AtG n (.inl pr g) p := h
theorem AtG.unroll {m : Nat} {g : G P ρ} (h : AtG n g p) : AtG n (.unroll m g) p := h
theorem AtG.join {sh : Sh} {Y : sh.El → AOut × St} {g : G P sh.El} {k : sh.El → G P ρ} (q : sh.El → Prop) (h : AtG n g q) (hk : ∀ t, q t → AtG n (k t) p) : AtG n (.join sh Y g k) p :=
  At.bind (o := g.run n) (g := fun t => (k t).run n) h hk
theorem AtG.loop {σ : Type} {sh : Sh} {hd : List TS} {E : σ → St} {X : sh.El → AOut × St} {a0 : σ} {body : σ → G P (σ ⊕ sh.El)} {k : sh.El → G P ρ} (I : σ → Prop) (m : σ → Nat) (q : sh.El → Prop)
    (ht : tsOk hd = true) (hI : I a0) (hm : m a0 < n) (hb : ∀ a, I a → AtG n (body a) (RoundAt I m q a)) (hk : ∀ t, q t → AtG n (k t) p) : AtG n (.loop sh hd E X a0 body k) p := by
  obtain ⟨r, h2, h3⟩ := At.bind (o := iterO (fun a => (body a).run n) n a0) (g := fun t => (k t).run n) (At.iter (body := fun a => (body a).run n) I m q hb n a0 hI hm) hk
  exact ⟨r, by show (if tsOk hd = true then (iterO (fun a => (body a).run n) n a0).bind fun t => (k t).run n else none) = _; rw [if_pos ht]; exact h2, h3⟩
end
end Go.AM
/- Guides with loops over maps, node by node: what comes out is so, whatever the order. No conditions. -/
namespace Go.AM
set_option linter.unusedVariables false
set_option linter.unusedSectionVars false
section
variable {P : Program} [Globs] {ρ : Type} {n : Nat} {p : ρ → Prop}
def CanG (n : Nat) (g : G P ρ) (p : ρ → Prop) : Prop := g.can n p
theorem CanG.skip {m : Nat} {g : G P ρ} (h : CanG n g p) : CanG n (.skip m g) p := h
theorem CanG.br {d : Tmp} {c : Bool} {t f : G P ρ} (ht : c = true → CanG n t p) (hf : c = false → CanG n f p) : CanG n (.br d c t f) p := by
  show if c then t.can n p else f.can n p
  cases c with
  | true => exact ht rfl
  | false => exact hf rfl
theorem CanG.sp {c : Bool} {t f : G P ρ} (ht : c = true → CanG n t p) (hf : c = false → CanG n f p) : CanG n (.sp c t f) p := by
  show if c then t.can n p else f.can n p
  cases c with
  | true => exact ht rfl
  | false => exact hf rfl
theorem CanG.call {c : Ctr P} {x : c.X} {k : c.sh.El → G P ρ} (q : c.sh.El → Prop) (h : At (c.S n x) q) (hk : ∀ r, q r → CanG n (k r) p) : CanG n (.call c x k) p :=
  let ⟨r, h1, h2⟩ := h; ⟨r, h1, hk r h2⟩
theorem CanG.callR {c : CtrR P} {x : c.X} {k : c.sh.El → G P ρ} (q : c.sh.El → Prop) (h : At (c.S n x) q) (hk : ∀ r, q r → CanG n (k r) p) : CanG n (.callR c x k) p :=
  let ⟨r, h1, h2⟩ := h; ⟨r, h1, hk r h2⟩
theorem CanG.call1 {c : Ctr1 P} {b v : Nat} {ex : List PR} {x : c.X} {k : c.sh.El → G P ρ} (q : c.sh.El → Prop) (h : At (c.S n x) q) (hk : ∀ r, q r → CanG n (k r) p) : CanG n (.call1 c b v ex x k) p :=
  let ⟨r, h1, h2⟩ := h; ⟨r, h1, hk r h2⟩
theorem CanG.op {X : Type} {t : OpT X} {k : X → G P ρ} (x : X) (h : t.run = some x) (hk : CanG n (k x) p) : CanG n (.op t k) p := ⟨x, h, hk⟩
theorem CanG.done {ts : List TS} {r : ρ} (ht : tsOk ts = true) (h : p r) : CanG (P := P) n (.done ts r) p := ⟨ht, h⟩
theorem CanG.tidy {ts : List TS} {g : G P ρ} (ht : tsOk ts = true) (h : CanG n g p) : CanG n (.tidy ts g) p := ⟨ht, h⟩
theorem CanG.inl {pr : List PR} {g : G P ρ} (h : CanG n g p) : CanG n (.inl pr g) p := h
theorem CanG.unroll {m : Nat} {g : G P ρ} (h : CanG n g p) : CanG n (.unroll m g) p := h
theorem CanG.join {sh : Sh} {Y : sh.El → AOut × St} {g : G P sh.El} {k : sh.El → G P ρ} (q : sh.El → Prop) (h : CanG n g q) (hk : ∀ t, q t → CanG n (k t) p) : CanG n (.join sh Y g k) p :=
  G.can_mono n g hk h
theorem CanG.pick {z : PK} {seen : List Nat} {a : G P ρ} {f : Nat → G P ρ} (h0 : (∀ i, i < z.n → i ∈ seen) → CanG n a p) (h1 : ∀ i, i < z.n → i ∉ seen → CanG n (f i) p) : CanG n (.pick z seen (pk a f)) p := ⟨h0, h1⟩
theorem CanG.iter {σ τ : Type} {f : σ → ((σ ⊕ τ) → Prop) → Prop} (hf : ∀ a (q q' : σ ⊕ τ → Prop), (∀ x, q x → q' x) → f a q → f a q') (I : σ → Prop) (m : σ → Nat) (q : τ → Prop) (hb : ∀ a, I a → f a (RoundAt I m q a)) :
    ∀ (M : Nat) (a : σ), I a → m a < M → iterP f M a q
  | 0, _, _, h => absurd h (Nat.not_lt_zero _)
  | M + 1, a, hI, hm => hf a _ _ (fun x hx => match x, hx with
      | .inl b, hx => CanG.iter hf I m q hb M b hx.1 (by have := hx.2; omega)
      | .inr t, hx => hx) (hb a hI)
theorem CanG.loop {σ : Type} {sh : Sh} {hd : List TS} {E : σ → St} {X : sh.El → AOut × St} {a0 : σ} {body : σ → G P (σ ⊕ sh.El)} {k : sh.El → G P ρ} (I : σ → Prop) (m : σ → Nat) (q : sh.El → Prop)
    (ht : tsOk hd = true) (hI : I a0) (hm : m a0 < n) (hb : ∀ a, I a → CanG n (body a) (RoundAt I m q a)) (hk : ∀ t, q t → CanG n (k t) p) : CanG n (.loop sh hd E X a0 body k) p := by
  refine ⟨ht, ?_⟩
  exact CanG.iter (f := fun a q => (body a).can n q) (fun a _ _ h h' => G.can_mono n (body a) h h') I m (fun t => (k t).can n p) (fun a ha => G.can_mono n (body a) (fun x hx => match x, hx with
    | .inl b, hx => hx
    | .inr t, hx => hk t hx) (hb a ha)) n a0 hI hm
end

/-- The entries that have come, in the order in which they came: all of them, where all have come. -/
theorem seen_perm {n : Nat} {seen : List Nat} (hnd : seen.Nodup) (hlt : ∀ i ∈ seen, i < n) (hall : ∀ i, i < n → i ∈ seen) : seen.Perm (List.range n) :=
  (List.perm_ext_iff_of_nodup hnd List.nodup_range).2 fun i => ⟨fun h => List.mem_range.2 (hlt i h), fun h => hall i (List.mem_range.1 h)⟩
end Go.AM
/- slices.Sorted of a map's keys: the keys in order, whatever order the map is gone through in. No conditions. -/
namespace Go.L
open Go.AM
set_option maxRecDepth 100000
set_option linter.unusedVariables false

theorem sorted_perm {l l' : List Int} (h : l.Perm l') : l.mergeSort Sn.le = l'.mergeSort Sn.le := by
  have ht : ∀ a b c : Int, Sn.le a b = true → Sn.le b c = true → Sn.le a c = true := by intro a b c; simp only [Sn.le, decide_eq_true_eq]; omega
  have hto : ∀ a b : Int, (Sn.le a b || Sn.le b a) = true := by intro a b; simp only [Sn.le, Bool.or_eq_true, decide_eq_true_eq]; omega
  refine List.Perm.eq_of_pairwise (le := fun a b => Sn.le a b = true) (fun a b _ _ h1 h2 => ?_) (List.pairwise_mergeSort ht hto l) (List.pairwise_mergeSort ht hto l') ?_
  · simp only [Sn.le, decide_eq_true_eq] at h1 h2; omega
  · exact (List.mergeSort_perm l _).trans (h.trans (List.mergeSort_perm l' _).symm)

def keyAt (m : List (Int × S158)) (i : Nat) : Int := ((m[i]?).map (·.1)).getD 0
theorem keys_range (m : List (Int × S158)) : (List.range m.length).map (keyAt m) = m.map (·.1) := by
  apply List.ext_getElem
  · simp
  · intro i h1 h2
    have h : i < m.length := by simpa using h1
    simp [keyAt, h]

theorem sorted_can (m : List (Int × S158)) (n : Nat) (hm : m.length < 1000000) (hn : m.length < n) :
    CanG n (g_slices_Sorted_int m) (fun y => y = (m.length, (m.map (·.1)).mergeSort Sn.le)) := by
  unfold g_slices_Sorted_int
  refine .skip <| .inl <| .skip <| .inl <| .skip <| .inl <| .skip <| .loop (fun a => a.1.Nodup ∧ (∀ i ∈ a.1, i < m.length) ∧ a.2 = a.1.map (keyAt m)) (fun a => m.length - a.1.length) (fun t => t.2.Perm (m.map (·.1))) rfl ⟨List.nodup_nil, by simp, rfl⟩ (by simpa using hn) (fun a ha => ?_) (fun t ht => ?_)
  · obtain ⟨hnd, hlt, hk⟩ := ha
    refine .pick (fun hall => .skip <| .done rfl ?_) (fun i hi hns => ?_)
    · show a.2.Perm _
      rw [hk, ← keys_range]
      exact (seen_perm hnd hlt hall).map _
    · have hi' : i < m.length := hi
      have hlen : a.1.length < m.length := by
        have h1 : (a.1 ++ [i]).Nodup := by
          rw [List.nodup_append]
          exact ⟨hnd, by simp, fun x hx y hy => by simp only [List.mem_singleton] at hy; subst hy; rintro rfl; exact hns hx⟩
        have h2 : (a.1 ++ [i]).length ≤ m.length := by
          have := List.Nodup.length_le_of_subset h1 (l₂ := List.range m.length) (fun x hx => by
            rcases List.mem_append.1 hx with h | h
            · exact List.mem_range.2 (hlt x h)
            · simp only [List.mem_singleton] at h; subst h; exact List.mem_range.2 hi')
          simpa using this
        simp at h2; omega
      refine .skip <| .op (m[i]'hi') (List.getElem?_eq_getElem hi') <| .skip <| .inl <| .skip <| .op () ?_ <| .skip <| .tidy rfl <| .skip <| .done rfl ?_
      · show (if _ then _ else _) = _
        rw [if_pos]
        refine ⟨rfl, ?_⟩
        have : a.2.length = a.1.length := by rw [hk]; simp
        simp only [roomy, Bool.and_eq_true, decide_eq_true_eq, List.length_singleton, this]
        omega
      · refine ⟨⟨?_, fun x hx => ?_, ?_⟩, ?_⟩
        · rw [List.nodup_append]
          exact ⟨hnd, by simp, fun x hx y hy => by simp only [List.mem_singleton] at hy; subst hy; rintro rfl; exact hns hx⟩
        · rcases List.mem_append.1 hx with h | h
          · exact hlt x h
          · simp only [List.mem_singleton] at h; subst h; exact hi'
        · show a.2 ++ [(m[i]'hi').1] = _
          rw [List.map_append, ← hk]
          simp [keyAt, hi']
        · show m.length - (a.1 ++ [i]).length < m.length - a.1.length
          simp; omega
  · have hl : t.2.length = m.length := by have := ht.length_eq; simpa using this
    refine .tidy rfl <| .inl <| .skip <| .tidy rfl <| .inl <| .skip <| .tidy rfl <| .inl <| .skip <| .call1 (fun r => r = t.2.mergeSort Sn.le) ⟨_, if_pos (by omega), rfl⟩ fun r hr => .skip <| .tidy rfl <| .inl <| .done rfl ?_
    show (t.2.length, r) = _
    rw [hl, hr, sorted_perm ht]; rfl

def sortedS (m : List (Int × S158)) : Option (Nat × List Int) := if m.length < 1000000 then some (m.length, (m.map (·.1)).mergeSort Sn.le) else none

theorem sorted_S (m : List (Int × S158)) (r : Nat × List Int) (h : sortedS m = some r) : G.can (List.length m + 1) (g_slices_Sorted_int m) (fun y => y = r) := by
  unfold sortedS at h
  split at h
  · rename_i hm
    simp only [Option.some.injEq] at h
    subst h
    exact sorted_can m _ hm (Nat.lt_succ_self _)
  · cases h

/-- slices.Sorted(maps.Keys(m)). -/
noncomputable def o_slices_Sorted_int : CtrM prog := n_slices_Sorted_int.all (fun _ m => sortedS m) fun n m r h =>
  ⟨_, G.can_mono _ _ (fun y (hy : y = r) => by rw [hy]) (sorted_S m r h)⟩
end Go.L
/- What the functions compute, each told by a guide that the kernel checks against the program. No conditions. -/
namespace Go.L
open Go.AM
set_option maxRecDepth 100000
set_option linter.unusedVariables false
set_option linter.unusedSimpArgs false
def vfwim20 (v : Int) : AVal := .sc (.int .i64 v)
def vfwim22 (v : S158) : AVal := .agg (eS158 v)
def eqwim24 (a b : Int) : Bool := ((a == b) && true)
def puMwim25 (b : Nat) (m : List (Int × S158)) : PU := puMap b m vfwim20 vfwim22 (fun _ => rfl) fun _ => rfl
def prMwim26 (b : Nat) (m : List (Int × S158)) : PR := prMap b m vfwim20 vfwim22 (fun _ => rfl) fun _ => rfl
/- leafmesh/policy.Imports -/
noncomputable def g_policy_Imports (x1 : (List Go.L.Import)) (x2 : Go.L.Route) : G prog (Sh.El (.one (List Int))) :=
  .skip 5 <| .call c_comm_Targets x2.A.Comms fun (r3 : (List Int)) => .skip 2 <| .call c_policy_Prefix x2 fun (r4 : (Prod Go.L.Prefix Bool)) => .skip 9 <| .op (lenO x1 Go.L.eImport) fun _ => .skip 1 <| .loop (.one (List (Prod Int Go.L.S158))) [.keep [5, 6, 7, 8, 21, 22, 23], .cut [1, 2] [] []] (fun (a : (Prod Int (List (Prod Int Go.L.S158)))) => ⟨(ap (jl 5) (ap [(.lst (List.map (Go.AM.eI .u32) r3)), (.ptr 0 0 0 0), (.sc (.bool r4.2)), (.mp 1)] (ap (jl 12) (ap [(.lst (List.map Go.L.eImport x1)), (.sc (.int .i64 (((List.length x1) : Nat) : Int))), .sc (.int .i64 a.1)] (jl 29))))), [.row 0 2 [ePrefix r4.1], .map a.2.length (encM vfwim20 vfwim22 0 a.2)], []⟩)
    (fun (t : (List (Prod Int Go.L.S158))) => (.exit 0, ⟨(ap (jl 8) (ap [(.mp 1)] (jl 44))), [.row 0 2 [ePrefix r4.1], .map t.length (encM vfwim20 vfwim22 0 t)], []⟩)) ((0 : Int), [])
    (fun (a25 : (Prod Int (List (Prod Int Go.L.S158)))) => .skip 1 <| .br 24 (decide (a25.1 < (((List.length x1) : Nat) : Int))) (.skip 1 <| .op (idxO x1 Go.L.eImport 5 a25.1) fun x26 => .skip 6 <| .call c_policy_has (r3, x26.Target) fun (r27 : Bool) => .skip 1 <| .br 31 r27 (.skip 4 <| .br 35 (!x26.HasPrefix) (.skip 14 <| .op (msetO a25.2 x26.Place Go.L.S158.mk vfwim20 vfwim22 eqwim24 [(.int .i64)] false 1) fun _ => .skip 2 <| .done [.keep [5, 6, 7, 8, 21, 22, 23], .cut [0, 1] [] [puMwim25 1 ((Go.AM.putM eqwim24 x26.Place Go.L.S158.mk a25.2))]] (.inl ((Go.IntKind.wrap .i64 (a25.1 + (1 : Int))), (Go.AM.putM eqwim24 x26.Place Go.L.S158.mk a25.2)))) (.skip 2 <| .br 37 r4.2 (.skip 3 <| .call c_addr_Covers (x26.Prefix, r4.1) fun (r29 : Bool) => .skip 3 <| .br 44 r29 (.skip 5 <| .op (msetO a25.2 x26.Place Go.L.S158.mk vfwim20 vfwim22 eqwim24 [(.int .i64)] false 1) fun _ => .skip 2 <| .done [.keep [5, 6, 7, 8, 21, 22, 23], .cut [0, 1] [] [puMwim25 1 ((Go.AM.putM eqwim24 x26.Place Go.L.S158.mk a25.2))]] (.inl ((Go.IntKind.wrap .i64 (a25.1 + (1 : Int))), (Go.AM.putM eqwim24 x26.Place Go.L.S158.mk a25.2)))) (.skip 3 <| .done [.keep [5, 6, 7, 8, 21, 22, 23], .cut [0, 1] [] [puMwim25 1 a25.2]] (.inl ((Go.IntKind.wrap .i64 (a25.1 + (1 : Int))), a25.2)))) (.skip 10 <| .done [.keep [5, 6, 7, 8, 21, 22, 23], .cut [0, 1] [] [puMwim25 1 a25.2]] (.inl ((Go.IntKind.wrap .i64 (a25.1 + (1 : Int))), a25.2))))) (.skip 16 <| .done [.keep [5, 6, 7, 8, 21, 22, 23], .cut [0, 1] [] [puMwim25 1 a25.2]] (.inl ((Go.IntKind.wrap .i64 (a25.1 + (1 : Int))), a25.2)))) (.skip 1 <| .done [.keep [8], .cut [0, 1] [] [puMwim25 1 a25.2]] (.inr a25.2)))
    (fun (t35 : (List (Prod Int Go.L.S158))) => .skip 1 <| .inl [prMwim26 1 t35] <| .skip 4 <| .tidy [.keep [2], .cut [2] [] [puMwim25 1 t35]] <| .inl [prMwim26 1 t35] <| .inl [prMwim26 1 t35] <| .callR (o_slices_Sorted_int.at [2, 1] 3 rfl) t35 fun (r36 : (Prod Nat (List Int))) => .skip 1 <| .done [.frz (fzRow (.s 4) 3 0 1 r36.1 r36.2 (Go.AM.eI .i64) fun _ => rfl)] r36.2)
noncomputable def c_policy_Imports : Ctr prog := Ctr.of cfgI 10 15 ((List Go.L.Import) × Go.L.Route) (fun x => [.lst (x.1.map eImport), .agg (eRoute x.2)]) (.one (List Int)) (fun r => .ret (.lst (r.map (eI .i64)))) (fun x => g_policy_Imports x.1 x.2) (fun x => by kernel_rfl)
end Go.L
