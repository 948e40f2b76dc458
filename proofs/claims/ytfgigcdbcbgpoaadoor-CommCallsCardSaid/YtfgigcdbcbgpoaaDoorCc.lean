/- The constructors of communities and Kind return what the document defines: CommCalls returns true for every input; the card, tied to the program's text. No conditions. -/
import Derived.Test.YtfgigcdbcbgpoaaDoorWc
import Derived.Test.YtfgigcdbcbgpoaaDoorAmPl
import Derived.Test.YtfgigcdbcbgpoaaDoorRe
import Derived.Test.YtfgigcdbcbgpoaaDoorAmDr
import Derived.Test.YtfgigcdbcbgpoaaDoorRows
import Derived.Test.YtfgigcdbcbgpoaaDoorCards
import Derived.Test.YtfgigcdbcbgpoaaDoorTie
import Derived.Deep.DeepHandedRow
import Derived.Lib.LaidTab
namespace Go.L
open Go.AM
set_option maxRecDepth 100000
set_option linter.unusedSimpArgs false
set_option linter.unusedVariables false

theorem lives03_b {β : Type} {n : Nat} (k : c_law03_lives.sh.El → Option β) : (c_law03_lives.S n ()).bind k = k true := rfl

/-- Both functions answer, and alike. -/
def Both {α : Type} (a b : Option α) : Prop := ∃ r, a = some r ∧ b = some r

def madeS (a b x : Int) : V8 Int := V8.mk a b (x / 1099511627776 % 256) (x / 4294967296 % 256) (x / 16777216 % 256) (x / 65536 % 256) (x / 256 % 256) (x % 256)
theorem made_b {n : Nat} (a b x : Int) {β : Type} (k : c_ref03_made.sh.El → Option β) : (c_ref03_made.S n (a, b, x)).bind k = k (madeS a b x) := by
  have : c_ref03_made.S n (a, b, x) = some (madeS a b x) := by
    show (g_ref03_made a b x).run n = _
    simp only [g_ref03_made, G.run, tsOk, if_true]
    simp [madeS, Go.IntKind.wrap, Go.IntKind.bits, Go.IntKind.signed, Int.fdiv_eq_ediv_of_nonneg]
    try rfl
  rw [this]; rfl
theorem cflag_b {n : Nat} (x : Bool) {β : Type} (k : c_comm_flag.sh.El → Option β) : (c_comm_flag.S n x).bind k = k (if x then 1 else 0 : Int) := by
  have : c_comm_flag.S n x = some (if x then 1 else 0 : Int) := by
    show (g_comm_flag x).run n = _
    cases x <;> simp [g_comm_flag, G.run, tsOk] <;> rfl
  rw [this]; rfl
theorem rflag_b {n : Nat} (x : Bool) {β : Type} (k : c_ref03_flag.sh.El → Option β) : (c_ref03_flag.S n x).bind k = k (if x then 1099511627776 else 0 : Int) := by
  have : c_ref03_flag.S n x = some (if x then 1099511627776 else 0 : Int) := by
    show (g_ref03_flag x).run n = _
    cases x <;> simp [g_ref03_flag, G.run, tsOk] <;> rfl
  rw [this]; rfl

theorem v8_ext {a0 a1 a2 a3 a4 a5 a6 a7 b0 b1 b2 b3 b4 b5 b6 b7 : Int} (h0 : a0 = b0) (h1 : a1 = b1) (h2 : a2 = b2) (h3 : a3 = b3) (h4 : a4 = b4) (h5 : a5 = b5) (h6 : a6 = b6) (h7 : a7 = b7) :
    V8.mk a0 a1 a2 a3 a4 a5 a6 a7 = V8.mk b0 b1 b2 b3 b4 b5 b6 b7 := by subst h0 h1 h2 h3 h4 h5 h6 h7; rfl
theorem both_v8 {u v : V8 Int} (h : u = v) {e : Int} : Both (α := V8 Int × Int) (some (u, e)) (some (v, e)) := ⟨_, rfl, by rw [h]⟩
theorem both_v {u v : V8 Int} (h : u = v) : Both (α := V8 Int) (some u) (some v) := ⟨_, rfl, by rw [h]⟩

theorem encap_both (n : Nat) (x : Int) : Both (α := V8 Int × Int) (c_comm_Encap.S n x) (c_ref03_Encap.S n x) := by
  show Both (α := V8 Int × Int) ((g_comm_Encap x).run n) ((g_ref03_Encap x).run n)
  simp only [g_comm_Encap, g_ref03_Encap, G.run, tsOk, if_true, made_b, madeS]
  by_cases h0 : x < 0
  · simp only [h0, decide_true, if_true]; exact both_v8 rfl
  by_cases h1 : x > 65535
  · simp only [h0, h1, decide_true, decide_false, Bool.false_eq_true, if_false, if_true]; exact both_v8 rfl
  simp only [h0, h1, decide_false, Bool.false_eq_true, if_false]
  refine both_v8 (v8_ext ?_ ?_ ?_ ?_ ?_ ?_ ?_ ?_) <;> simp [Go.IntKind.wrap, Go.IntKind.bits, Go.IntKind.signed, Int.fdiv_eq_ediv_of_nonneg] <;> omega

theorem label_both (n : Nat) (is : Bool) (x : Int) (h : 0 ≤ x) : Both (α := V8 Int × Int) (c_comm_Label.S n (is, x)) (c_ref03_Label.S n (is, x)) := by
  show Both (α := V8 Int × Int) ((g_comm_Label is x).run n) ((g_ref03_Label is x).run n)
  simp only [g_comm_Label, g_ref03_Label, G.run, tsOk, if_true, made_b, madeS, cflag_b, rflag_b]
  by_cases h1 : x > 16777215
  · simp only [h1, decide_true, if_true]; exact both_v8 rfl
  simp only [h1, decide_false, Bool.false_eq_true, if_false]
  cases is <;> (refine both_v8 (v8_ext ?_ ?_ ?_ ?_ ?_ ?_ ?_ ?_) <;> simp [Go.IntKind.wrap, Go.IntKind.bits, Go.IntKind.signed, Int.fdiv_eq_ediv_of_nonneg] <;> omega)

theorem import_both (n : Nat) (x : Int) (h : 0 ≤ x) : Both (α := V8 Int × Int) (c_comm_Import.S n x) (c_ref03_Import.S n x) := by
  show Both (α := V8 Int × Int) ((g_comm_Import x).run n) ((g_ref03_Import x).run n)
  simp only [g_comm_Import, g_ref03_Import, G.run, tsOk, if_true, made_b, madeS]
  by_cases h1 : x > 281474976710655
  · simp only [h1, decide_true, if_true]; exact both_v8 rfl
  simp only [h1, decide_false, Bool.false_eq_true, if_false]
  refine both_v8 (v8_ext ?_ ?_ ?_ ?_ ?_ ?_ ?_ ?_) <;> simp [Go.IntKind.wrap, Go.IntKind.bits, Go.IntKind.signed, Int.fdiv_eq_ediv_of_nonneg] <;> omega

theorem router_both (n : Nat) (x : Int) (h : 0 ≤ x) : Both (α := V8 Int × Int) (c_comm_Router.S n x) (c_ref03_Router.S n x) := by
  show Both (α := V8 Int × Int) ((g_comm_Router x).run n) ((g_ref03_Router x).run n)
  simp only [g_comm_Router, g_ref03_Router, G.run, tsOk, if_true, made_b, madeS]
  by_cases h1 : x > 281474976710655
  · simp only [h1, decide_true, if_true]; exact both_v8 rfl
  simp only [h1, decide_false, Bool.false_eq_true, if_false]
  refine both_v8 (v8_ext ?_ ?_ ?_ ?_ ?_ ?_ ?_ ?_) <;> simp [Go.IntKind.wrap, Go.IntKind.bits, Go.IntKind.signed, Int.fdiv_eq_ediv_of_nonneg] <;> omega

theorem election_both (n : Nat) (x y : Int) : Both (α := V8 Int × Int) (c_comm_Election.S n (x, y)) (c_ref03_Election.S n (x, y)) := by
  show Both (α := V8 Int × Int) ((g_comm_Election x y).run n) ((g_ref03_Election x y).run n)
  simp only [g_comm_Election, g_ref03_Election, G.run, tsOk, if_true, made_b, madeS]
  by_cases h0 : x < 0
  · simp only [h0, decide_true, if_true]; exact both_v8 rfl
  by_cases h1 : x > 31
  · simp only [h0, h1, decide_true, decide_false, Bool.false_eq_true, if_false, if_true]; exact both_v8 rfl
  by_cases h2 : y < 0
  · simp only [h0, h1, h2, decide_true, decide_false, Bool.false_eq_true, if_false, if_true]; exact both_v8 rfl
  by_cases h3 : y > 65535
  · simp only [h0, h1, h2, h3, decide_true, decide_false, Bool.false_eq_true, if_false, if_true]; exact both_v8 rfl
  simp only [h0, h1, h2, h3, decide_false, Bool.false_eq_true, if_false]
  refine both_v8 (v8_ext ?_ ?_ ?_ ?_ ?_ ?_ ?_ ?_) <;> simp [Go.IntKind.wrap, Go.IntKind.bits, Go.IntKind.signed, Int.fdiv_eq_ediv_of_nonneg] <;> omega

theorem target_both (n : Nat) (a x : Int) (h0 : 0 ≤ a) (h1 : a < 65536) (h2 : 0 ≤ x) (h3 : x < 4294967296) : Both (α := V8 Int) (c_comm_Target.S n (a, x)) (c_ref03_Target.S n (a, x)) := by
  show Both (α := V8 Int) ((g_comm_Target a x).run n) ((g_ref03_Target a x).run n)
  simp only [g_comm_Target, g_ref03_Target, G.run, tsOk, if_true, made_b, madeS]
  refine both_v (v8_ext ?_ ?_ ?_ ?_ ?_ ?_ ?_ ?_) <;> simp [Go.IntKind.wrap, Go.IntKind.bits, Go.IntKind.signed, Int.fdiv_eq_ediv_of_nonneg] <;> omega

theorem mobility_both (n : Nat) (is : Bool) (x : Int) (h2 : 0 ≤ x) (h3 : x < 4294967296) : Both (α := V8 Int) (c_comm_Mobility.S n (is, x)) (c_ref03_Mobility.S n (is, x)) := by
  show Both (α := V8 Int) ((g_comm_Mobility is x).run n) ((g_ref03_Mobility is x).run n)
  simp only [g_comm_Mobility, g_ref03_Mobility, G.run, tsOk, if_true, made_b, madeS, cflag_b, rflag_b]
  cases is <;> (refine both_v (v8_ext ?_ ?_ ?_ ?_ ?_ ?_ ?_ ?_) <;> simp [Go.IntKind.wrap, Go.IntKind.bits, Go.IntKind.signed, Int.fdiv_eq_ediv_of_nonneg] <;> omega)

def kindS (c : V8 Int) : Int :=
  if c.a0 = 0 ∧ c.a1 = 2 then 1 else if c.a0 = 3 ∧ c.a1 = 12 then 2 else if c.a0 = 6 ∧ c.a1 = 0 then 3 else if c.a0 = 6 ∧ c.a1 = 1 then 4 else if c.a0 = 6 ∧ c.a1 = 2 then 5 else if c.a0 = 6 ∧ c.a1 = 3 then 6 else if c.a0 = 6 ∧ c.a1 = 6 then 7 else 0

theorem kind_run (n : Nat) (c : V8 Int) : c_comm_Kind.S n c = some (kindS c) := by
  show (g_comm_Kind c).run n = _
  simp only [g_comm_Kind, G.run, tsOk, if_true, kindS, Bool.and_true, Bool.and_eq_true, beq_iff_eq]
  have e : ∀ (a b : Int), (a = b) = (b = a) := fun a b => propext eq_comm
  simp only [e 0, e 1, e 2, e 3, e 6, e 12]
  repeat' split
  all_goals rfl
theorem refkind_run (n : Nat) (c : V8 Int) : c_ref03_Kind.S n c = some (kindS c) := by
  show (g_ref03_Kind c).run n = _
  simp only [g_ref03_Kind, G.run, tsOk, if_true, kindS, beq_iff_eq]
  by_cases h0 : c.a0 = 0
  · by_cases h2 : c.a1 = 2
    · simp [h0, h2]; rfl
    · simp [h0, h2]; rfl
  by_cases h3 : c.a0 = 3
  · by_cases h2 : c.a1 = 12
    · simp [h3, h2]; rfl
    · simp [h3, h2]; rfl
  by_cases h6 : c.a0 = 6
  · by_cases k0 : c.a1 = 0
    · simp [h6, k0]; rfl
    by_cases k1 : c.a1 = 1
    · simp [h6, k1]; rfl
    by_cases k2 : c.a1 = 2
    · simp [h6, k2]; rfl
    by_cases k3 : c.a1 = 3
    · simp [h6, k3]; rfl
    by_cases k6 : c.a1 = 6
    · simp [h6, k6]; rfl
    · simp [h6, k0, k1, k2, k3, k6]; rfl
  · simp [h0, h3, h6]; rfl

theorem commCalls_run (n : Nat) (aS x a b m : Int) (is : Bool) (c : V8 Int) (h0 : 0 ≤ aS) (h1 : aS < 65536) (h2 : 0 ≤ x) (h3 : x < 4294967296) (h4 : 0 ≤ m) : (g_law03_CommCalls aS x a b m is c).run n = some true := by
  obtain ⟨r1, e1, f1⟩ := encap_both n a
  obtain ⟨r2, e2, f2⟩ := label_both n is x h2
  obtain ⟨r3, e3, f3⟩ := import_both n m h4
  obtain ⟨r4, e4, f4⟩ := router_both n m h4
  obtain ⟨r5, e5, f5⟩ := election_both n a b
  obtain ⟨r6, e6, f6⟩ := target_both n aS x h0 h1 h2 h3
  obtain ⟨r7, e7, f7⟩ := mobility_both n is x h2 h3
  have b1 : ∀ {β : Type} (k : c_comm_Encap.sh.El → Option β), (c_comm_Encap.S n a).bind k = k r1 := fun k => by rw [e1]; rfl
  have b2 : ∀ {β : Type} (k : c_comm_Label.sh.El → Option β), (c_comm_Label.S n (is, x)).bind k = k r2 := fun k => by rw [e2]; rfl
  have b3 : ∀ {β : Type} (k : c_comm_Import.sh.El → Option β), (c_comm_Import.S n m).bind k = k r3 := fun k => by rw [e3]; rfl
  have b4 : ∀ {β : Type} (k : c_comm_Router.sh.El → Option β), (c_comm_Router.S n m).bind k = k r4 := fun k => by rw [e4]; rfl
  have b5 : ∀ {β : Type} (k : c_comm_Election.sh.El → Option β), (c_comm_Election.S n (a, b)).bind k = k r5 := fun k => by rw [e5]; rfl
  have b6 : ∀ {β : Type} (k : c_comm_Target.sh.El → Option β), (c_comm_Target.S n (aS, x)).bind k = k r6 := fun k => by rw [e6]; rfl
  have b7 : ∀ {β : Type} (k : c_comm_Mobility.sh.El → Option β), (c_comm_Mobility.S n (is, x)).bind k = k r7 := fun k => by rw [e7]; rfl
  have d1 : ∀ {β : Type} (k : c_ref03_Encap.sh.El → Option β), (c_ref03_Encap.S n a).bind k = k r1 := fun k => by rw [f1]; rfl
  have d2 : ∀ {β : Type} (k : c_ref03_Label.sh.El → Option β), (c_ref03_Label.S n (is, x)).bind k = k r2 := fun k => by rw [f2]; rfl
  have d3 : ∀ {β : Type} (k : c_ref03_Import.sh.El → Option β), (c_ref03_Import.S n m).bind k = k r3 := fun k => by rw [f3]; rfl
  have d4 : ∀ {β : Type} (k : c_ref03_Router.sh.El → Option β), (c_ref03_Router.S n m).bind k = k r4 := fun k => by rw [f4]; rfl
  have d5 : ∀ {β : Type} (k : c_ref03_Election.sh.El → Option β), (c_ref03_Election.S n (a, b)).bind k = k r5 := fun k => by rw [f5]; rfl
  have d6 : ∀ {β : Type} (k : c_ref03_Target.sh.El → Option β), (c_ref03_Target.S n (aS, x)).bind k = k r6 := fun k => by rw [f6]; rfl
  have d7 : ∀ {β : Type} (k : c_ref03_Mobility.sh.El → Option β), (c_ref03_Mobility.S n (is, x)).bind k = k r7 := fun k => by rw [f7]; rfl
  have b8 : ∀ {β : Type} (k : c_comm_Kind.sh.El → Option β), (c_comm_Kind.S n c).bind k = k (kindS c) := fun k => by rw [kind_run]; rfl
  have d8 : ∀ {β : Type} (k : c_ref03_Kind.sh.El → Option β), (c_ref03_Kind.S n c).bind k = k (kindS c) := fun k => by rw [refkind_run]; rfl
  simp only [g_law03_CommCalls, G.run, tsOk, if_true, lives03_b, b1, b2, b3, b4, b5, b6, b7, b8, d1, d2, d3, d4, d5, d6, d7, d8, beq_self_eq_true, Bool.and_self, Bool.not_true, Bool.false_eq_true, if_false]
  rfl
end Go.L
namespace Go.L
open Go.AM
set_option linter.unusedVariables false
theorem wf_u16 {x : Int} (h : (Go.Lit.int .u16 x).wf = true) : 0 ≤ x ∧ x < 65536 := by
  simp [Go.Lit.wf, Go.IntKind.min, Go.IntKind.max, Go.IntKind.signed, Go.IntKind.bits] at h
  omega
theorem wf_u32 {x : Int} (h : (Go.Lit.int .u32 x).wf = true) : 0 ≤ x ∧ x < 4294967296 := by
  simp [Go.Lit.wf, Go.IntKind.min, Go.IntKind.max, Go.IntKind.signed, Go.IntKind.bits] at h
  omega
theorem wf_u64 {x : Int} (h : (Go.Lit.int .u64 x).wf = true) : 0 ≤ x := by
  simp [Go.Lit.wf, Go.IntKind.min, Go.IntKind.max, Go.IntKind.signed, Go.IntKind.bits] at h
  omega
theorem law_commCalls (aS n : Int) (a b : Int) (m : Int) (is : Bool) (c : V8 Int) (h0 : (Go.Lit.int .u16 aS).wf = true) (h1 : (Go.Lit.int .u32 n).wf = true) (h2 : (Go.Lit.int .i64 a).wf = true) (h3 : (Go.Lit.int .i64 b).wf = true) (h4 : (Go.Lit.int .u64 m).wf = true) (h5 : True) {q : Prop} (h6 : q) :
    FnVal prog 4 [.sc (.int .u16 aS), .sc (.int .u32 n), .sc (.int .i64 a), .sc (.int .i64 b), .sc (.int .u64 m), .sc (.bool is), .agg (eV8 (cI .u8) c)] (.ret (.sc (.bool true))) :=
  c_law03_CommCalls.ok 100 (aS, n, a, b, m, is, c) true (commCalls_run 100 aS n a b m is c (wf_u16 h0).1 (wf_u16 h0).2 (wf_u32 h1).1 (wf_u32 h1).2 (wf_u64 h4))
end Go.L
namespace Go.Proofs.YtfgigcdbcbgpoaaDoor.commCalls
open Go.ChangeShapes Go.WideShapes Go.ChangeAt Go.RowKit Go.AM Go.L
set_option linter.unusedVariables false

def kv : List Value := [(1, 0, 2), (2, 3, 12), (3, 6, 0), (4, 6, 1), (5, 6, 2), (6, 6, 3), (7, 6, 6)].flatMap fun (p : Int × Int × Int) => [.int .i64 p.1, .int .u8 p.2.1, .int .u8 p.2.2]
def kk : List Kd := (List.replicate 7 [.int .i64, .int .u8, .int .u8]).flatten
theorem globsOk {W : World} (h : laidMet Tryd.prog Rows.commCallsRow.laid W) : GlobsOk (Gh.bare W) W := by
  refine globs_one (P := Tryd.prog) (name := "leafmesh/comm.kinds") (g := 0) (vs := kv) (by kernel_rfl) (laid_cells (g := 0) (t := 104) (ks := kk) (by kernel_rfl) (by kernel_rfl) (by kernel_rfl) (by kernel_rfl) h) (by kernel_rfl) fun i cs hi => ?_
  match i, hi with
  | 0, hi => exact ⟨rfl, (Option.some.inj hi).symm⟩
theorem own : ownKnob Tryd.prog.godebug = none := by kernel_rfl
theorem slices : ((List.range Tryd.prog.types.size).all fun t => match Tryd.prog.underlying t with | some (.slice e) => decide (0 < Tryd.prog.cellsOf e) | _ => true) = true := by kernel_rfl
theorem maps : mapsRowed Tryd.prog = true := by kernel_rfl
theorem inTable : (Tryd.f4.params.toList.all fun t => Nat.ble (t + 1) Tryd.prog.types.size) = true := by kernel_rfl
set_option maxRecDepth 100000 in
theorem contract (H : Type) (enc : TypeId × Value → H) (W : World) (base : Nat) (args : Array Value) (ds gs : List (DataW H)) (before : List MemPlace)
    (hval : ∀ (j : Nat) t v, Tryd.f4.params[j]? = some t → args[j]? = some v → Value.okWide Tryd.prog W .any base t v)
    (hW : DataW.Whole enc Tryd.prog Tryd.f4.params.toList Rows.commCallsSpec.vars false W args.toList ds gs before) (hL : laidMetH Tryd.prog Rows.commCallsRow.laid W) :
    Calls Tryd.prog 4 args W fun e W' => ∃ v, e = .returned v ∧ Rows.commCallsSpec.post enc Tryd.prog Tryd.f4 false true false false W args v W' := by
  have hW' := hW
  have hlt := hW.lt
  obtain ⟨p, q, hA0, hV, rfl, hfz, hnd⟩ := hW
  have hA : DataW.TrodAll enc Tryd.prog W 0 (fun _ => true) true Tryd.f4.params.toList args.toList ds p := hA0
  clear hA0
  have hAll := hA
  rw [Tryd.params4] at hA hval
  obtain ⟨v0, r0, d0, e0, p0, q0, hv0, hd0, hp0, t0, hA⟩ := trodAll_cons hA
  obtain ⟨v1, r1, d1, e1, p1, q1, hv1, hd1, hp1, t1, hA⟩ := trodAll_cons hA
  obtain ⟨v2, r2, d2, e2, p2, q2, hv2, hd2, hp2, t2, hA⟩ := trodAll_cons hA
  obtain ⟨v3, r3, d3, e3, p3, q3, hv3, hd3, hp3, t3, hA⟩ := trodAll_cons hA
  obtain ⟨v4, r4, d4, e4, p4, q4, hv4, hd4, hp4, t4, hA⟩ := trodAll_cons hA
  obtain ⟨v5, r5, d5, e5, p5, q5, hv5, hd5, hp5, t5, hA⟩ := trodAll_cons hA
  obtain ⟨v6, r6, d6, e6, p6, q6, hv6, hd6, hp6, t6, hA⟩ := trodAll_cons hA
  obtain ⟨hr, hd, hq⟩ := trodAll_nil hA
  obtain rfl : args = #[v0, v1, v2, v3, v4, v5, v6] := by apply Array.ext'; simp only [hv0, hv1, hv2, hv3, hv4, hv5, hv6, hr]
  obtain rfl : ds = [d0, d1, d2, d3, d4, d5, d6] := by simp only [hd0, hd1, hd2, hd3, hd4, hd5, hd6, hd]
  obtain ⟨rfl, rfl⟩ := trodVars_none hV
  simp only [List.append_nil] at hW' hlt
  obtain ⟨a0, ok0, ra0⟩ := Rdb.cell (c := (cI .u16)) (Rdb.int Tryd.underlying26 (by kernel_rfl)) (by kernel_rfl) (hval 0 _ _ rfl rfl) t0
  obtain ⟨a1, ok1, ra1⟩ := Rdb.cell (c := (cI .u32)) (Rdb.int Tryd.underlying27 (by kernel_rfl)) (by kernel_rfl) (hval 1 _ _ rfl rfl) t1
  obtain ⟨a2, ok2, ra2⟩ := Rdb.cell (c := (cI .i64)) (Rdb.int Tryd.underlying3 (by kernel_rfl)) (by kernel_rfl) (hval 2 _ _ rfl rfl) t2
  obtain ⟨a3, ok3, ra3⟩ := Rdb.cell (c := (cI .i64)) (Rdb.int Tryd.underlying3 (by kernel_rfl)) (by kernel_rfl) (hval 3 _ _ rfl rfl) t3
  obtain ⟨a4, ok4, ra4⟩ := Rdb.cell (c := (cI .u64)) (Rdb.int Tryd.underlying35 (by kernel_rfl)) (by kernel_rfl) (hval 4 _ _ rfl rfl) t4
  obtain ⟨a5, ok5, ra5⟩ := Rdb.cell (c := cB) (Rdb.bool Tryd.underlying4 (by kernel_rfl)) (by kernel_rfl) (hval 5 _ _ rfl rfl) t5
  obtain ⟨a6, ok6, ra6⟩ := Rdb.arr (Rdb.array8 (c := cI .u8) Tryd.underlying29 (by kernel_rfl) (by kernel_rfl) (Rdb.int Tryd.underlying5 (by kernel_rfl))) Tryd.underlying29 (hval 6 _ _ rfl rfl) t6
  refine (law_top (law_commCalls a0 a1 a2 a3 a4 a5 a6 ok0 ok1 ok2 ok3 ok4 ok5 ok6) W (globsOk hL) _ ⟨_, _, rfl, ra0, ⟨_, _, rfl, ra1, ⟨_, _, rfl, ra2, ⟨_, _, rfl, ra3, ⟨_, _, rfl, ra4, ⟨_, _, rfl, ra5, ⟨_, _, rfl, ra6, rfl⟩⟩⟩⟩⟩⟩⟩).mono fun e W' ⟨he, hg⟩ => ?_
  subst he
  exact ⟨_, rfl, post_of_below (pa := p) (pv := []) hW' (fun _ _ _ => (trodAll_cons_mk (shut_bool Tryd.underlying4 _) trodAll_mk0))
    (fun sp hsp => trodAll_kept laid maps (slices_full_of _ slices) hg (fun t ht => Nat.le_of_ble_eq_true (List.all_eq_true.1 inTable t ht)) hAll hlt hsp) (fun _ _ => rfl) (by simp)
    hg (ok_one (by kernel_rfl) rfl (okWide_bool_mk Tryd.underlying4 _))⟩

/-- A world for the witness: the settled one, the variable holding what its initialiser lays. -/
noncomputable def laidWorld (os : Os) : World :=
  { World.holding Tryd.prog os ⟨#[], #[.int .u16 0, .int .u32 0, .int .i64 0, .int .i64 0, .int .u64 0, .bool false, .agg #[.int .u8 0, .int .u8 0, .int .u8 0, .int .u8 0, .int .u8 0, .int .u8 0, .int .u8 0, .int .u8 0]], []⟩ with heap := (World.holding Tryd.prog os ⟨#[], #[.int .u16 0, .int .u32 0, .int .i64 0, .int .i64 0, .int .u64 0, .bool false, .agg #[.int .u8 0, .int .u8 0, .int .u8 0, .int .u8 0, .int .u8 0, .int .u8 0, .int .u8 0, .int .u8 0]], []⟩).heap.modify 0 fun
      | .cells _ t frozen => .cells kv.toArray t frozen
      | o => o }
theorem laid_met (os : Os) : laidMet Tryd.prog Rows.commCallsRow.laid ((laidWorld os).forCall (fun _ _ => 0) ⟨#[], #[.int .u16 0, .int .u32 0, .int .i64 0, .int .i64 0, .int .u64 0, .bool false, .agg #[.int .u8 0, .int .u8 0, .int .u8 0, .int .u8 0, .int .u8 0, .int .u8 0, .int .u8 0, .int .u8 0]], []⟩).memory :=
  laidMet_of_run' 8 (by kernel_rfl) (by kernel_rfl)
theorem reads (os : Os) {H : Type} (enc : TypeId × Value → H) : ∃ x, DataW.whole enc Tryd.prog ((laidWorld os).forCall (fun _ _ => 0) ⟨#[], #[.int .u16 0, .int .u32 0, .int .i64 0, .int .i64 0, .int .u64 0, .bool false, .agg #[.int .u8 0, .int .u8 0, .int .u8 0, .int .u8 0, .int .u8 0, .int .u8 0, .int .u8 0, .int .u8 0]], []⟩).memory Tryd.f4.params.toList Rows.commCallsSpec.vars false (#[.int .u16 0, .int .u32 0, .int .i64 0, .int .i64 0, .int .u64 0, .bool false, .agg #[.int .u8 0, .int .u8 0, .int .u8 0, .int .u8 0, .int .u8 0, .int .u8 0, .int .u8 0, .int .u8 0]] : Array Value).toList 8 = some x := by
  have h : (DataW.whole enc Tryd.prog ((laidWorld os).forCall (fun _ _ => 0) ⟨#[], #[.int .u16 0, .int .u32 0, .int .i64 0, .int .i64 0, .int .u64 0, .bool false, .agg #[.int .u8 0, .int .u8 0, .int .u8 0, .int .u8 0, .int .u8 0, .int .u8 0, .int .u8 0, .int .u8 0]], []⟩).memory Tryd.f4.params.toList Rows.commCallsSpec.vars false (#[.int .u16 0, .int .u32 0, .int .i64 0, .int .i64 0, .int .u64 0, .bool false, .agg #[.int .u8 0, .int .u8 0, .int .u8 0, .int .u8 0, .int .u8 0, .int .u8 0, .int .u8 0, .int .u8 0]] : Array Value).toList 8).isSome = true := by kernel_rfl
  exact Option.isSome_iff_exists.1 h

set_option maxRecDepth 100000 in
theorem lifted (os : Os) (started : os.Started) (H : Type) (enc : TypeId × Value → H) (F : Stop.Interp) :
    ReturnsInHanded {} Tryd.checked os 4 .any ((OpenSpec.ofChange Rows.commCallsSpec).preRow enc Tryd.prog Tryd.f4 Rows.commCallsRow.domain false Rows.commCallsRow.laid) (((OpenSpec.ofChange Rows.commCallsSpec).at F).post enc Tryd.prog Tryd.f4 false true false false) := by
  obtain ⟨x, hx⟩ := reads os enc
  refine returnsInHanded_of_row (C := Tryd.checked) (s := OpenSpec.ofChange Rows.commCallsSpec) own started (by kernel_rfl) Tryd.func4
    (witness_row_at (enc := enc) (C := Tryd.checked) false (laidWorld os) #[.int .u16 0, .int .u32 0, .int .i64 0, .int .i64 0, .int .u64 0, .bool false, .agg #[.int .u8 0, .int .u8 0, .int .u8 0, .int .u8 0, .int .u8 0, .int .u8 0, .int .u8 0, .int .u8 0]] rfl (by kernel_rfl) (by kernel_rfl) (by kernel_rfl)
      (OpenSpec.preRow_of_cond 8 hx (by kernel_rfl) (fun k hk => by cases hk) (by kernel_rfl) (laid_met os))) ?_
  intro W base args ds gs before hval hW _ _ _ hL _ _
  exact contract H enc W base args ds gs before hval hW hL

theorem said : Rows.CommCallsSaid :=
  OpenClaim.holds_of_cond 4 Tryd.f4 rfl rfl rfl rfl rfl rfl rfl ⟨rfl, rfl, rfl, rfl, rfl⟩ rfl rfl rfl rfl rfl (by kernel_rfl) Tryd.func4 (by kernel_rfl)
    (of_decide_eq_true (by kernel_rfl)) (by unfold Func.isWrapper; first | (rw [if_pos (by decide +kernel)]; kernel_rfl) | (rw [if_neg (by decide +kernel)]; exact ⟨rfl, rfl⟩))
    (fun os started H enc _ F => by rw [OpenClaim.pre_eq_preRow]; exact lifted os started H enc F)

theorem noStand : (Tryd.f4.params.toList.all fun t => !Tryd.prog.wantsStandIn t) = true := by kernel_rfl
theorem plain (f : FuncId) (fn : Func) (hf : Tryd.pinned.checked.prog.funcNamed Rows.commCallsRow.func = some f) (hfn : Tryd.pinned.checked.prog.funcs[f]? = some fn) :
    false = Tryd.pinned.checked.prog.looks [] ∧ ∀ (j : Nat) t, fn.params[j]? = some t → Tryd.pinned.checked.prog.wantsStandIn t = false := by
  obtain rfl : f = 4 := Option.some.inj ((show Tryd.prog.funcNamed Rows.commCallsRow.func = some 4 by kernel_rfl).symm.trans hf) |>.symm
  obtain rfl : fn = Tryd.f4 := (Option.some.inj (Tryd.func4.symm.trans hfn)).symm
  refine ⟨by kernel_rfl, fun j t ht => ?_⟩
  have := List.all_eq_true.1 noStand t (Array.mem_toList_iff.2 (Array.mem_of_getElem? ht))
  have h2 : Tryd.prog.wantsStandIn t = false := by simpa using this
  exact h2

theorem card : Rows.CommCallsCardSaid :=
  Claim7.holds_tied_plain_at .later [] _ _ _ _ said (fun _ h => by cases h) (by kernel_rfl) (fun _ h => by cases h) commCalls_row_tie rfl ⟨rfl, rfl⟩ (by kernel_rfl) rfl plain (by kernel_rfl)
end Go.Proofs.YtfgigcdbcbgpoaaDoor.commCalls
