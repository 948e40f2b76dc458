/- Put together out of parts. No conditions. -/
import Derived.Test.YtfgigcdbcbgpoaaDoorAmPl
import Derived.Test.YtfgigcdbcbgpoaaDoorPm
import Derived.Test.YtfgigcdbcbgpoaaDoorPt
import Derived.Test.YtfgigcdbcbgpoaaDoorSs
import Derived.Test.YtfgigcdbcbgpoaaDoorPq
import Derived.Test.YtfgigcdbcbgpoaaDoorAmRd
/- Functions that answer, with an answer that does not depend on the fuel. No conditions. -/
namespace Go.AM
set_option linter.unusedVariables false

/-- With N or more to burn it answers, and always the same, and the answer is so. -/
def Ans {α : Type} (N : Nat) (f : Nat → Option α) (p : α → Prop) : Prop := ∃ r, p r ∧ ∀ n, N ≤ n → f n = Option.some r

theorem Ans.of {α : Type} {N : Nat} {p : α → Prop} (r : α) (h : p r) : Ans N (fun _ => Option.some r) p := ⟨r, h, fun _ _ => rfl⟩
theorem Ans.mono {α : Type} {N : Nat} {f : Nat → Option α} {p q : α → Prop} (h : Ans N f p) (hp : ∀ r, p r → q r) : Ans N f q := by
  obtain ⟨r, h1, h2⟩ := h
  exact ⟨r, hp r h1, h2⟩
theorem Ans.bind {α β : Type} {N : Nat} {f : Nat → Option α} {g : Nat → α → Option β} {p : α → Prop} {q : β → Prop} (h : Ans N f p) (hg : ∀ a, p a → Ans N (fun n => g n a) q) : Ans N (fun n => (f n).bind (g n)) q := by
  obtain ⟨a, h1, h2⟩ := h
  obtain ⟨b, h3, h4⟩ := hg a h1
  exact ⟨b, h3, fun n hn => by show (f n).bind (g n) = _; rw [h2 n hn]; exact h4 n hn⟩
theorem Ans.ite {α : Type} {N : Nat} {c : Prop} [Decidable c] {f g : Nat → Option α} {p : α → Prop} (hf : c → Ans N f p) (hg : ¬ c → Ans N g p) : Ans N (fun n => if c then f n else g n) p := by
  by_cases hc : c
  · simp only [hc, if_true]; exact hf hc
  · simp only [hc, if_false]; exact hg hc
theorem Ans.up {α : Type} {N M : Nat} {f : Nat → Option α} {p : α → Prop} (h : Ans N f p) (hm : N ≤ M) : Ans M f p := by
  obtain ⟨r, h1, h2⟩ := h
  exact ⟨r, h1, fun n hn => h2 n (Nat.le_trans hm hn)⟩

/-- How a round may end. -/
def RoundOk {σ τ : Type} (I : σ → Prop) (m : σ → Nat) (p : τ → Prop) (a : σ) : σ ⊕ τ → Prop
  | .inl b => I b ∧ m b < m a
  | .inr t => p t

/-- A loop whose rounds answer, with a measure. -/
theorem Ans.loopK {σ τ : Type} {N : Nat} {body : Nat → σ → Option (σ ⊕ τ)} (I : σ → Prop) (m : σ → Nat) (p : τ → Prop)
    (h : ∀ a, I a → Ans N (fun n => body n a) (RoundOk I m p a)) :
    ∀ (M : Nat) (a : σ), I a → m a < M → ∃ r, p r ∧ ∀ n, N ≤ n → ∀ k, M ≤ k → iterO (body n) k a = Option.some r
  | 0, a, _, hm => absurd hm (Nat.not_lt_zero _)
  | M + 1, a, hI, hm => by
    obtain ⟨r, h1, h2⟩ := h a hI
    cases r with
    | inl b =>
      obtain ⟨t, h3, h4⟩ := Ans.loopK I m p h M b h1.1 (by have := h1.2; omega)
      refine ⟨t, h3, fun n hn k hk => ?_⟩
      cases k with
      | zero => omega
      | succ k => simp only [iterO, h2 n hn]; exact h4 n hn k (by omega)
    | inr t =>
      refine ⟨t, h1, fun n hn k hk => ?_⟩
      cases k with
      | zero => omega
      | succ k => simp only [iterO, h2 n hn]

theorem Ans.loop {σ τ : Type} {N : Nat} {body : Nat → σ → Option (σ ⊕ τ)} {a : σ} (I : σ → Prop) (m : σ → Nat) (p : τ → Prop) (hI : I a) (hm : m a < N)
    (h : ∀ a, I a → Ans N (fun n => body n a) (RoundOk I m p a)) : Ans N (fun n => iterO (body n) n a) p := by
  obtain ⟨r, h1, h2⟩ := Ans.loopK I m p h N a hI hm
  exact ⟨r, h1, fun n hn => h2 n hn n hn⟩

/-! ### Guides that answer -/
section
variable {P : Program} [Globs] {ρ : Type} {N : Nat} {p : ρ → Prop}
def AnsG (N : Nat) (g : G P ρ) (p : ρ → Prop) : Prop := Ans N (fun n => g.run n) p
theorem AnsG.skip {m : Nat} {g : G P ρ} (h : AnsG N g p) : AnsG N (.skip m g) p := h
theorem AnsG.br {d : Tmp} {c : Bool} {t f : G P ρ} (ht : c = true → AnsG N t p) (hf : c = false → AnsG N f p) : AnsG N (.br d c t f) p := by
  show Ans N (fun n => if c then t.run n else f.run n) p
  exact Ans.ite ht (fun h => hf (by simpa using h))
theorem AnsG.call {c : Ctr P} {x : c.X} {k : c.sh.El → G P ρ} (q : c.sh.El → Prop) (h : Ans N (fun n => c.S n x) q) (hk : ∀ r, q r → AnsG N (k r) p) : AnsG N (.call c x k) p :=
  Ans.bind (f := fun n => c.S n x) (g := fun n r => (k r).run n) h hk
theorem AnsG.op {X : Type} {t : OpT X} {k : X → G P ρ} (x : X) (h : t.run = some x) (hk : AnsG N (k x) p) : AnsG N (.op t k) p := by
  obtain ⟨r, h1, h2⟩ := hk
  exact ⟨r, h1, fun n hn => by show t.run.bind (fun x => (k x).run n) = _; rw [h]; exact h2 n hn⟩
theorem AnsG.done {ts : List TS} {r : ρ} (ht : tsOk ts = true) (h : p r) : AnsG (P := P) N (.done ts r) p :=
  ⟨r, h, fun n _ => by show (if tsOk ts = true then some r else none) = _; rw [if_pos ht]⟩
theorem AnsG.tidy {ts : List TS} {g : G P ρ} (ht : tsOk ts = true) (h : AnsG N g p) : AnsG N (.tidy ts g) p := by
  obtain ⟨r, h1, h2⟩ := h
  exact ⟨r, h1, fun n hn => by show (if tsOk ts = true then g.run n else none) = _; rw [if_pos ht]; exact h2 n hn⟩
theorem AnsG.unroll {m : Nat} {g : G P ρ} (h : AnsG N g p) : AnsG N (.unroll m g) p := h
theorem AnsG.join {sh : Sh} {Y : sh.El → AOut × St} {g : G P sh.El} {k : sh.El → G P ρ} (q : sh.El → Prop) (h : AnsG N g q) (hk : ∀ t, q t → AnsG N (k t) p) : AnsG N (.join sh Y g k) p :=
  Ans.bind (f := fun n => g.run n) (g := fun n t => (k t).run n) h hk
theorem AnsG.inl {pr : List PR} {g : G P ρ} (h : AnsG N g p) : AnsG N (.inl pr g) p := h
theorem AnsG.sp {c : Bool} {t f : G P ρ} (ht : c = true → AnsG N t p) (hf : c = false → AnsG N f p) : AnsG N (.sp c t f) p := by
  show Ans N (fun n => if c then t.run n else f.run n) p
  exact Ans.ite ht (fun h => hf (by simpa using h))
theorem AnsG.callR {c : CtrR P} {x : c.X} {k : c.sh.El → G P ρ} (q : c.sh.El → Prop) (h : Ans N (fun n => c.S n x) q) (hk : ∀ r, q r → AnsG N (k r) p) : AnsG N (.callR c x k) p :=
  Ans.bind (f := fun n => c.S n x) (g := fun n r => (k r).run n) h hk
theorem AnsG.call1 {c : Ctr1 P} {b v : Nat} {ex : List PR} {x : c.X} {k : c.sh.El → G P ρ} (q : c.sh.El → Prop) (h : Ans N (fun n => c.S n x) q) (hk : ∀ r, q r → AnsG N (k r) p) : AnsG N (.call1 c b v ex x k) p :=
  Ans.bind (f := fun n => c.S n x) (g := fun n r => (k r).run n) h hk
theorem AnsG.loop {σ : Type} {sh : Sh} {hd : List TS} {E : σ → St} {X : sh.El → AOut × St} {a0 : σ} {body : σ → G P (σ ⊕ sh.El)} {k : sh.El → G P ρ} (I : σ → Prop) (m : σ → Nat) (q : sh.El → Prop)
    (ht : tsOk hd = true) (hI : I a0) (hm : m a0 < N) (hb : ∀ a, I a → AnsG N (body a) (RoundOk I m q a))
    (hk : ∀ t, q t → AnsG N (k t) p) : AnsG N (.loop sh hd E X a0 body k) p := by
  have h1 := Ans.bind (f := fun n => iterO (fun a => (body a).run n) n a0) (g := fun n t => (k t).run n) (Ans.loop (N := N) (body := fun n a => (body a).run n) I m q hI hm hb) hk
  obtain ⟨r, h2, h3⟩ := h1
  exact ⟨r, h2, fun n hn => by show (if tsOk hd = true then (iterO (fun a => (body a).run n) n a0).bind fun t => (k t).run n else none) = _; rw [if_pos ht]; exact h3 n hn⟩
end
end Go.AM
/- What the rules of a policy answer. No conditions. -/
namespace Go.L
open Go.AM
set_option maxRecDepth 100000
set_option linter.unusedVariables false
def okPre (p : Prefix) : Bool := decide (0 ≤ p.Len) && decide (p.Len ≤ 32)
theorem valid_ans (N : Nat) (p : Prefix) : Ans N (fun n => c_addr_valid.S n p) fun (b : Bool) => b = true → 0 ≤ p.Len ∧ p.Len ≤ 32 := by
  refine (?_ : AnsG N (g_addr_valid p) _)
  unfold g_addr_valid
  refine .skip (.br (fun h => .skip (.done rfl ?_)) fun h => .skip (.done rfl ?_))
  · intro h2
    simp only [ge_iff_le, decide_eq_true_eq] at h h2
    exact ⟨h, h2⟩
  · intro h2; cases h2
theorem mask_ans (N : Nat) (x : Int) (h0 : 0 ≤ x) (h1 : x ≤ 32) : Ans N (fun n => c_addr_mask.S n x) fun (_ : Int) => True := by
  refine (?_ : AnsG N (g_addr_mask x) _)
  unfold g_addr_mask
  refine .skip (.op () ?_ (.skip (.done rfl trivial)))
  have : Go.IntKind.wrap .i64 (32 - x) = 32 - x := wrap_i64 (by omega) (by omega)
  rw [this]
  show (if decide (0 ≤ 32 - x) = true then some () else none) = _
  rw [if_pos (by simp; omega)]
theorem contains_ans (N : Nat) (p : Prefix) (ip : Int) : Ans N (fun n => c_addr_Contains.S n (p, ip)) fun (_ : Bool) => True := by
  refine (?_ : AnsG N (g_addr_Contains p ip) _)
  unfold g_addr_Contains
  refine .skip (.call _ (valid_ans N p) fun b hb => .skip (.br (fun h => ?_) fun h => .skip (.done rfl trivial)))
  obtain ⟨h0, h1⟩ := hb h
  exact .skip (.call _ (mask_ans N p.Len h0 h1) fun _ _ => .skip (.done rfl trivial))
theorem covers_ans (N : Nat) (p q : Prefix) : Ans N (fun n => c_addr_Covers.S n (p, q)) fun (_ : Bool) => True := by
  refine (?_ : AnsG N (g_addr_Covers p q) _)
  unfold g_addr_Covers
  refine .skip (.call _ (valid_ans N p) fun b hb => .skip (.br (fun h => .skip (.call _ (valid_ans N q) fun c hc => .skip (.br (fun h2 => .skip (.br (fun h3 => .skip (.call _ (contains_ans N p q.IP) fun _ _ => .skip (.done rfl trivial))) fun h3 => .skip (.done rfl trivial))) fun h2 => .skip (.done rfl trivial)))) fun h => .skip (.done rfl trivial)))
theorem prefix_ans (N : Nat) (r : Route) : Ans N (fun n => c_policy_Prefix.S n r) fun (_ : Prod Prefix Bool) => True := by
  refine (?_ : AnsG N (g_policy_Prefix r) _)
  unfold g_policy_Prefix
  (repeat' first | exact AnsG.done rfl trivial | refine AnsG.skip ?_ | refine AnsG.inl ?_ | refine AnsG.br (fun _ => ?_) (fun _ => ?_))
theorem within_ans (N : Nat) (x : Rule) (r : Route) : Ans N (fun n => c_policy_within.S n (x, r)) fun (_ : Bool) => True := by
  refine (?_ : AnsG N (g_policy_within x r) _)
  unfold g_policy_within
  refine .skip (.call _ (prefix_ans N r) fun p _ => .skip (.br (fun h => .skip (.call _ (covers_ans N x.Prefix p.1) fun _ _ => ?_)) fun h => ?_))
  · (repeat' first | exact AnsG.done rfl trivial | refine AnsG.skip ?_ | refine AnsG.inl ?_ | refine AnsG.br (fun _ => ?_) (fun _ => ?_))
  · (repeat' first | exact AnsG.done rfl trivial | refine AnsG.skip ?_ | refine AnsG.inl ?_ | refine AnsG.br (fun _ => ?_) (fun _ => ?_))
theorem idx_some {X : Type} (l : List X) (enc : X → List AVal) (n : Nat) (i : Int) (h0 : 0 ≤ i) (h1 : i < (l.length : Int)) : ∃ x, (idxO l enc n i).run = some x := by
  have h2 : i.toNat < l.length := by omega
  refine ⟨l[i.toNat], ?_⟩
  show at? l i = _
  simp [at?, h0, h2]
theorem nan_ans (N : Nat) (x : Int) : Ans N (fun n => c_cmp_isNaN_uint32.S n x) fun (_ : Bool) => True := by
  refine (?_ : AnsG N (g_cmp_isNaN_uint32 x) _)
  unfold g_cmp_isNaN_uint32
  (repeat' first | exact AnsG.done rfl trivial | refine AnsG.skip ?_ | refine AnsG.inl ?_ | refine AnsG.br (fun _ => ?_) (fun _ => ?_))
theorem nan2_ans (N : Nat) (x : Int) : Ans N (fun n => c_slices_isNaN_uint32.S n x) fun (_ : Bool) => True := by
  refine (?_ : AnsG N (g_slices_isNaN_uint32 x) _)
  unfold g_slices_isNaN_uint32
  (repeat' first | exact AnsG.done rfl trivial | refine AnsG.skip ?_ | refine AnsG.inl ?_ | refine AnsG.br (fun _ => ?_) (fun _ => ?_))
theorem less_ans (N : Nat) (x y : Int) : Ans N (fun n => c_cmp_Less_uint32.S n (x, y)) fun (_ : Bool) => True := by
  refine (?_ : AnsG N (g_cmp_Less_uint32 x y) _)
  unfold g_cmp_Less_uint32
  refine .skip (.call _ (nan_ans N x) fun b _ => .skip (.br (fun _ => .skip (.call _ (nan_ans N y) fun c _ => ?_)) fun _ => ?_)) <;> (repeat' first | exact AnsG.done rfl trivial | refine AnsG.skip ?_ | refine AnsG.inl ?_ | refine AnsG.br (fun _ => ?_) (fun _ => ?_))
theorem mid_eq (i j : Int) (h0 : 0 ≤ i) (h1 : 0 ≤ j) (h2 : i + j < 9223372036854775808) : Go.IntKind.wrap .i64 (Int.fdiv (Go.IntKind.wrap .u64 (Go.IntKind.wrap .i64 (i + j))) ((2 : Int) ^ (@Min.min Nat instMinNat (Int.toNat (1 : Int)) (Go.IntKind.bits .u64)))) = (i + j) / 2 := by
  have e1 : Go.IntKind.wrap .i64 (i + j) = i + j := wrap_i64 (by omega) (by omega)
  have e2 : Go.IntKind.wrap .u64 (i + j) = i + j := by
    simp only [Go.IntKind.wrap, Go.IntKind.bits, Go.IntKind.signed]
    simp
    omega
  have e3 : ((2 : Int) ^ (@Min.min Nat instMinNat (Int.toNat (1 : Int)) (Go.IntKind.bits .u64))) = 2 := by decide
  rw [e1, e2, e3, Int.fdiv_eq_ediv_of_nonneg _ (by omega)]
  exact wrap_i64 (by omega) (by omega)
theorem bsearch_ans (N : Nat) (l : List Int) (x : Int) (hl : l.length < 1000000) (hN : l.length < N) : Ans N (fun n => c_slices_BinarySearch_uint32_uint32.S n (l, x)) fun (_ : Prod Int Bool) => True := by
  refine (?_ : AnsG N (g_slices_BinarySearch_uint32_uint32 l x) _)
  unfold g_slices_BinarySearch_uint32_uint32
  refine .skip (.op () rfl (.skip (.loop (fun (a : Int × Int) => 0 ≤ a.1 ∧ a.1 ≤ a.2 ∧ a.2 ≤ (l.length : Int)) (fun a => (a.2 - a.1).toNat) (fun (t : Int) => 0 ≤ t ∧ t ≤ (l.length : Int)) rfl ⟨by simp, by simp, by simp⟩ ?_ ?_ ?_)))
  · simp; omega
  · rintro ⟨i, j⟩ ⟨h0, h1, h2⟩
    simp only at h0 h1 h2 ⊢
    refine .skip (.br (fun h => .skip ?_) fun h => .skip (.done rfl ?_))
    · simp only [decide_eq_true_eq] at h
      rw [mid_eq i j h0 (by omega) (by omega)]
      obtain ⟨y, hy⟩ := idx_some l (eI .u32) 1 ((i + j) / 2) (by omega) (by omega)
      refine .op y hy (.skip (.call _ (less_ans N y x) fun b _ => .br (fun _ => .skip (.done rfl ?_)) fun _ => .skip (.done rfl ?_)))
      · rw [wrap_i64 (by omega) (by omega)]
        refine ⟨⟨?_, ?_, ?_⟩, ?_⟩ <;> simp only <;> omega
      · refine ⟨⟨?_, ?_, ?_⟩, ?_⟩ <;> simp only <;> omega
    · exact ⟨h0, by omega⟩
  · rintro t ⟨h0, h1⟩
    refine .skip (.br (fun h => .skip ?_) fun h => ?_)
    · simp only [decide_eq_true_eq] at h
      obtain ⟨y, hy⟩ := idx_some l (eI .u32) 1 t h0 h
      refine .op y hy (.skip (.br (fun _ => ?_) fun _ => .skip (.op y hy (.skip (.call _ (nan2_ans N y) fun b _ => .skip (.br (fun _ => .skip (.call _ (nan2_ans N x) fun c _ => ?_)) fun _ => ?_)))))) <;> (repeat' first | exact AnsG.done rfl trivial | refine AnsG.skip ?_ | refine AnsG.inl ?_ | refine AnsG.br (fun _ => ?_) (fun _ => ?_))
    · (repeat' first | exact AnsG.done rfl trivial | refine AnsG.skip ?_ | refine AnsG.inl ?_ | refine AnsG.br (fun _ => ?_) (fun _ => ?_))
theorem has_ans (N : Nat) (l : List Int) (x : Int) (hl : l.length < 1000000) (hN : l.length < N) : Ans N (fun n => c_policy_has.S n (l, x)) fun (_ : Bool) => True := by
  refine (?_ : AnsG N (g_policy_has l x) _)
  unfold g_policy_has
  exact .skip (.call _ (bsearch_ans N l x hl hN) fun r _ => .skip (.done rfl trivial))
theorem common1_ans (N : Nat) (x : Int) (l : List Int) (hl : l.length < 1000000) (hN : l.length < N) : Ans N (fun n => c_policy_common_1.S n (x, l)) fun (_ : Bool) => True := by
  refine (?_ : AnsG N (g_policy_common_1 x l) _)
  unfold g_policy_common_1
  exact .skip (.call _ (has_ans N l x hl hN) fun r _ => .skip (.done rfl trivial))
theorem indexf_ans (N : Nat) (m l : List Int) (hm : m.length < 1000000) (hl : l.length < 1000000) (hM : m.length < N) (hN : l.length < N) : Ans N (fun n => c_slices_IndexFunc_uint32_uint32.S n (m, l)) fun (_ : Int) => True := by
  refine (?_ : AnsG N (g_slices_IndexFunc_uint32_uint32 m l) _)
  unfold g_slices_IndexFunc_uint32_uint32
  refine .skip (.op () rfl (.skip (.loop (fun (a : Int) => 0 ≤ a ∧ a ≤ (m.length : Int)) (fun a => ((m.length : Int) - a).toNat) (fun _ => True) rfl ⟨by simp, by simp⟩ ?_ ?_ ?_)))
  · simp; omega
  · rintro a ⟨h0, h1⟩
    refine .skip (.br (fun h => .skip ?_) fun h => .skip (.done rfl trivial))
    simp only [decide_eq_true_eq] at h
    obtain ⟨y, hy⟩ := idx_some m (eI .u32) 1 a h0 h
    refine .op y hy (.skip (.call _ (common1_ans N y l hl hN) fun b _ => .br (fun _ => .skip (.done rfl trivial)) fun _ => .skip (.done rfl ?_)))
    rw [wrap_i64 (by omega) (by omega)]
    refine ⟨⟨?_, ?_⟩, ?_⟩ <;> (try simp only) <;> omega
  · rintro (t | t) _
    · exact .done rfl trivial
    · exact .skip (.done rfl trivial)
theorem containsf_ans (N : Nat) (m l : List Int) (hm : m.length < 1000000) (hl : l.length < 1000000) (hM : m.length < N) (hN : l.length < N) : Ans N (fun n => c_slices_ContainsFunc_uint32_uint32.S n (m, l)) fun (_ : Bool) => True := by
  refine (?_ : AnsG N (g_slices_ContainsFunc_uint32_uint32 m l) _)
  unfold g_slices_ContainsFunc_uint32_uint32
  exact .skip (.call _ (indexf_ans N m l hm hl hM hN) fun r _ => .skip (.done rfl trivial))
theorem common_ans (N : Nat) (m l : List Int) (hm : m.length < 1000000) (hl : l.length < 1000000) (hM : m.length < N) (hN : l.length < N) : Ans N (fun n => c_policy_common.S n (m, l)) fun (_ : Bool) => True := by
  refine (?_ : AnsG N (g_policy_common m l) _)
  unfold g_policy_common
  exact .skip (.call _ (containsf_ans N m l hm hl hM hN) fun r _ => .skip (.done rfl trivial))
end Go.L
/- What matching rules, and editing communities, answer. No conditions. -/
namespace Go.L
open Go.AM Go.Sort
set_option maxRecDepth 100000
set_option linter.unusedVariables false
set_option linter.unusedSimpArgs false
theorem index_ans (N : Nat) (l : List Int) (x : Int) (hl : l.length < 1000000) (hN : l.length < N) : Ans N (fun n => c_slices_Index_int_int.S n (l, x)) fun (_ : Int) => True := by
  refine (?_ : AnsG N (g_slices_Index_int_int l x) _)
  unfold g_slices_Index_int_int
  refine .skip (.op () rfl (.skip (.loop (fun (a : Int) => 0 ≤ a ∧ a ≤ (l.length : Int)) (fun a => ((l.length : Int) - a).toNat) (fun _ => True) rfl ⟨by simp, by simp⟩ ?_ ?_ ?_)))
  · simp; omega
  · rintro a ⟨h0, h1⟩
    refine .skip (.br (fun h => .skip ?_) fun h => .skip (.done rfl trivial))
    simp only [decide_eq_true_eq] at h
    obtain ⟨y, hy⟩ := idx_some l (eI .i64) 1 a h0 h
    refine .op y hy (.skip (.br (fun _ => .skip (.done rfl trivial)) fun _ => .skip (.done rfl ?_)))
    rw [wrap_i64 (by omega) (by omega)]
    refine ⟨⟨?_, ?_⟩, ?_⟩ <;> (try simp only) <;> omega
  · rintro (t | t) _
    · exact .done rfl trivial
    · exact .skip (.done rfl trivial)
theorem containsi_ans (N : Nat) (l : List Int) (x : Int) (hl : l.length < 1000000) (hN : l.length < N) : Ans N (fun n => c_slices_Contains_int_int.S n (l, x)) fun (_ : Bool) => True := by
  refine (?_ : AnsG N (g_slices_Contains_int_int l x) _)
  unfold g_slices_Contains_int_int
  exact .skip (.call _ (index_ans N l x hl hN) fun r _ => .skip (.done rfl trivial))
theorem matches1_g {N : Nat} {x1 x2 x3 x4 x5 x6 x7 x8 x9 x10 x11 x12 x13 x14 x15 x16 x17 x18 x19 x20 x21 x22 x23 x24 x25 x26 x27 x28 x29 x30 x31 x32 x33 x34 x35 x36 x37 x38 x39 x40 x41 x42 x43 x44 x45 x46 x47 x48 x49 x50 x51 x52 x53} (hl : List.length x1 < 1000000) (hN : List.length x1 < N) : AnsG N (g_policy_matches_1 x1 x2 x3 x4 x5 x6 x7 x8 x9 x10 x11 x12 x13 x14 x15 x16 x17 x18 x19 x20 x21 x22 x23 x24 x25 x26 x27 x28 x29 x30 x31 x32 x33 x34 x35 x36 x37 x38 x39 x40 x41 x42 x43 x44 x45 x46 x47 x48 x49 x50 x51 x52 x53) fun (_ : Bool) => True := by
  unfold g_policy_matches_1
  refine .skip (.op () rfl (.skip (.br (fun _ => .skip (.done rfl trivial)) fun _ => .skip (.call _ (containsi_ans N x1 x16 hl hN) fun _ _ => .skip (.done rfl trivial)))))
theorem matches2_g {N : Nat} {x1 x2 x3 x4 x5 x6 x7 x8 x9 x10 x11 x12 x13 x14 x15 x16} (hl : List.length x2 < 1000000) (hN : List.length x2 < N) (hl2 : List.length x16 < 1000000) (hN2 : List.length x16 < N) : AnsG N (g_policy_matches_2 x1 x2 x3 x4 x5 x6 x7 x8 x9 x10 x11 x12 x13 x14 x15 x16) fun (_ : Bool) => True := by
  unfold g_policy_matches_2
  refine .skip (.op () rfl (.skip (.br (fun _ => .skip (.done rfl trivial)) fun _ => .skip (.call _ (common_ans N x2 x16 hl hl2 hN hN2) fun _ _ => .skip (.done rfl trivial)))))
theorem matches3_g {N : Nat} {x1 x2 x3 x4 x5 x6 x7 x8 x9 x10 x11 x12 x13 x14 x15 x16 x17 x18 x19 x20 x21 x22 x23 x24 x25 x26 x27 x28 x29 x30 x31 x32 x33 x34 x35 x36 x37 x38 x39 x40 x41 x42 x43 x44 x45 x46 x47 x48 x49 x50 x51 x52 x53} : AnsG N (g_policy_matches_3 x1 x2 x3 x4 x5 x6 x7 x8 x9 x10 x11 x12 x13 x14 x15 x16 x17 x18 x19 x20 x21 x22 x23 x24 x25 x26 x27 x28 x29 x30 x31 x32 x33 x34 x35 x36 x37 x38 x39 x40 x41 x42 x43 x44 x45 x46 x47 x48 x49 x50 x51 x52 x53) fun (_ : Bool) => True := by
  unfold g_policy_matches_3
  (repeat' first | exact AnsG.done rfl trivial | refine AnsG.skip ?_ | refine AnsG.inl ?_ | refine AnsG.br (fun _ => ?_) (fun _ => ?_))
theorem matches4_g {N : Nat} {x1 x2 x3 x4 x5 x6 x7 x8 x9 x10 x11 x12 x13 x14 x15 x16 x17 x18 x19 x20 x21 x22 x23 x24 x25 x26 x27 x28 x29 x30 x31 x32 x33 x34 x35 x36 x37 x38 x39 x40 x41 x42 x43 x44 x45 x46 x47 x48 x49 x50 x51 x52 x53} : AnsG N (g_policy_matches_4 x1 x2 x3 x4 x5 x6 x7 x8 x9 x10 x11 x12 x13 x14 x15 x16 x17 x18 x19 x20 x21 x22 x23 x24 x25 x26 x27 x28 x29 x30 x31 x32 x33 x34 x35 x36 x37 x38 x39 x40 x41 x42 x43 x44 x45 x46 x47 x48 x49 x50 x51 x52 x53) fun (_ : Bool) => True := by
  unfold g_policy_matches_4
  refine .skip (.br (fun _ => .skip (.done rfl trivial)) fun _ => .skip (.call _ (within_ans N _ _) fun _ _ => .skip (.done rfl trivial)))
theorem matches_ans (N : Nat) (x : Rule) (r : Route) (t : List Int) (hk : x.Kinds.length < 1000000) (hkN : x.Kinds.length < N) (ht : x.Targets.length < 1000000) (htN : x.Targets.length < N) (hl : t.length < 1000000) (hN : t.length < N) :
    Ans N (fun n => c_policy_matches.S n (x, r, t)) fun (_ : Bool) => True := by
  refine (?_ : AnsG N (g_policy_matches x r t) _)
  unfold g_policy_matches
  refine .skip (.unroll (.skip (.call _ (matches1_g hk hkN) fun b1 _ => .skip (.br (fun _ => .skip (.done rfl trivial)) fun _ => .skip ?_))))
  refine .call _ (matches2_g ht htN hl hN) fun b2 _ => .skip (.br (fun _ => .skip (.done rfl trivial)) fun _ => .skip ?_)
  refine .call _ matches3_g fun b3 _ => .skip (.br (fun _ => .skip (.done rfl trivial)) fun _ => .skip ?_)
  exact .call _ matches4_g fun b4 _ => .skip (.br (fun _ => .skip (.done rfl trivial)) fun _ => .skip (.done rfl trivial))

section
variable {K V : Type} [DecidableEq K] {eq : K → K → Bool}
theorem findM_mem (heq : ∀ a b, eq a b = decide (a = b)) : ∀ (m : List (K × V)) (k : K) (i : Nat), (findM eq k m i).isSome = decide (k ∈ m.map (·.1))
  | [], k, i => by simp [findM]
  | p :: ps, k, i => by
    simp only [findM, heq, decide_eq_true_eq]
    by_cases h : k = p.1
    · simp [h]
    · rw [if_neg h, findM_mem heq ps k (i + 1)]; simp [h]
theorem findM_at (heq : ∀ a b, eq a b = decide (a = b)) : ∀ (m : List (K × V)) (k : K) (j i : Nat) (v : V), findM eq k m j = some (i, v) → j ≤ i ∧ m[i - j]? = some (k, v)
  | [], _, _, _, _, h => by simp [findM] at h
  | p :: ps, k, j, i, v, h => by
    simp only [findM, heq, decide_eq_true_eq] at h
    by_cases hk : k = p.1
    · rw [if_pos hk] at h
      simp only [Option.some.injEq, Prod.mk.injEq] at h
      obtain ⟨rfl, rfl⟩ := h
      subst hk
      simp
    · rw [if_neg hk] at h
      obtain ⟨h1, h2⟩ := findM_at heq ps k (j + 1) i v h
      refine ⟨by omega, ?_⟩
      rw [show i - j = (i - (j + 1)) + 1 by omega, List.getElem?_cons_succ]
      exact h2
theorem putM_keys (heq : ∀ a b, eq a b = decide (a = b)) (m : List (K × V)) (k q : K) (v : V) : q ∈ (putM eq k v m).map (·.1) ↔ q ∈ m.map (·.1) ∨ q = k := by
  unfold putM
  cases hf : findM eq k m 0 with
  | none =>
    simp only [List.map_append, List.mem_append, List.map_cons, List.map_nil, List.mem_singleton]
  | some p =>
    obtain ⟨i, w⟩ := p
    obtain ⟨_, h2⟩ := findM_at heq m k 0 i w hf
    rw [Nat.sub_zero] at h2
    obtain ⟨hi, he⟩ := List.getElem?_eq_some_iff.1 h2
    have e : (m.set i (k, v)).map (·.1) = m.map (·.1) := by
      rw [List.map_set]
      refine List.ext_getElem (by simp) fun j h1 h3 => ?_
      rw [List.getElem_set]
      split
      · rename_i hj; subst hj; simp [he]
      · rfl
    simp only [e]
    constructor
    · exact .inl
    · rintro (h | rfl)
      · exact h
      · exact List.mem_map.2 ⟨(q, w), List.mem_of_getElem? h2, rfl⟩
end

/-- What editing a list of communities gives. -/
def keepC (rem : List (V8 Int)) (c : V8 Int) : Bool := !decide (c ∈ rem)
noncomputable def editS (l rem add : List (V8 Int)) : List (V8 Int) := sortU (l.filter (keepC rem) ++ add)
theorem sort_ans (N : Nat) (l : List (V8 Int)) (hs : l.length < 1000000) (hN : l.length + 2 < N) : Ans N (fun n => c_comm_Sort.S n l) fun (r : List (V8 Int)) => r = sortU l :=
  ⟨sortU l, rfl, fun n hn => commSort_v n l (by omega) (by omega)⟩
theorem get_some {α : Type} (l : List α) (i : Nat) (h : i < l.length) : ∃ x, l[i]? = some x ∧ x = l[i] := ⟨l[i], List.getElem?_eq_getElem h, rfl⟩
theorem idx_get {X : Type} (l : List X) (enc : X → List AVal) (n : Nat) (i : Int) (h0 : 0 ≤ i) (h1 : i < (l.length : Int)) : ∃ x, (idxO l enc n i).run = some x ∧ l[i.toNat]? = some x := by
  obtain ⟨x, hx⟩ := idx_some l enc n i h0 h1
  refine ⟨x, hx, ?_⟩
  have h2 : at? l i = some x := hx
  simpa [at?, h0] using h2
theorem ifS {c : Prop} [Decidable c] {α : Type} {a : α} (h : c) : (if c then some a else none) = some a := if_pos h
theorem take_succ_get {α : Type} {l : List α} {i : Nat} {x : α} (h : l[i]? = some x) : l.take (i + 1) = l.take i ++ [x] := by
  rw [List.take_add_one, h]; rfl
theorem edit_ans (N : Nat) (l rem add : List (V8 Int)) (h1 : l.length < 100000) (h2 : rem.length < 100000) (h3 : add.length < 100000) (hN1 : l.length + add.length + 2 < N) (hN2 : rem.length < N) :
    Ans N (fun n => c_policy_edit.S n (l, l.length, rem, add)) fun (r : List (V8 Int)) => r = editS l rem add := by
  refine (?_ : AnsG N (g_policy_edit l l.length rem add) _)
  unfold g_policy_edit
  refine .skip (.op () rfl (.skip (.op () rfl (.skip (.loop (fun (a : Int × List (V8 Int × S138)) => 0 ≤ a.1 ∧ a.1 ≤ (rem.length : Int) ∧ ∀ q, q ∈ a.2.map (·.1) ↔ q ∈ rem.take a.1.toNat) (fun a => ((rem.length : Int) - a.1).toNat)
    (fun (t : List (V8 Int × S138)) => ∀ q, q ∈ t.map (·.1) ↔ q ∈ rem) rfl ⟨by simp, by simp, fun q => by simp⟩ ?_ ?_ ?_)))))
  · simp; omega
  · rintro ⟨a, m⟩ ⟨g0, g1, g2⟩
    simp only at g0 g1 g2 ⊢
    refine .skip (.br (fun h => .skip ?_) fun h => .skip (.done rfl ?_))
    · simp only [decide_eq_true_eq] at h
      obtain ⟨y, hy, hg⟩ := idx_get rem (eV8 (cI .u8)) 8 a g0 h
      refine .op y hy (.skip (.op () rfl (.skip (.done rfl ?_))))
      rw [wrap_i64 (by omega) (by omega)]
      refine ⟨⟨?_, ?_, fun q => ?_⟩, ?_⟩ <;> simp only
      · omega
      · omega
      · rw [putM_keys eqV8, g2, show (a + 1).toNat = a.toNat + 1 by omega, take_succ_get hg]
        simp
      · omega
    · simp only [decide_eq_false_iff_not] at h
      intro q
      rw [g2, List.take_of_length_le (by omega)]
  · rintro (t : List (V8 Int × S138)) ht
    have hf : ∀ q, (findM (fun (a b : V8 Int) => ((a.a0 == b.a0) && ((a.a1 == b.a1) && ((a.a2 == b.a2) && ((a.a3 == b.a3) && ((a.a4 == b.a4) && ((a.a5 == b.a5) && ((a.a6 == b.a6) && ((a.a7 == b.a7) && true))))))))) q t 0).isSome = decide (q ∈ rem) := by
      intro q
      rw [findM_mem eqV8]
      exact decide_eq_decide.2 (ht q)
    have fin : ∀ L : List (V8 Int), L = l.filter (keepC rem) ++ add → AnsG (P := prog) N (.call c_comm_Sort L fun (r : List (V8 Int)) => .skip 1 <| .done [] r) fun (r : List (V8 Int)) => r = editS l rem add := by
      rintro L rfl
      have : (l.filter (keepC rem)).length ≤ l.length := List.length_filter_le _ _
      exact .call _ (sort_ans N _ (by simp; omega) (by simp; omega)) fun r hr => .skip (.done rfl hr)
    have hap : ∀ (k : Nat) (m : List (V8 Int)), k ≤ m.length → m.length = l.length → (appS k m add (eV8 (cI .u8)) 8 8 0 0 3 []).run = some () := by
      intro k m hk hm
      exact ifS ⟨hk, by simp [roomy]; omega⟩
    have whole : (∀ q ∈ l, q ∉ rem) → l.take l.length = l.filter (keepC rem) := by
      intro hq
      rw [List.take_of_length_le (Nat.le_refl _), List.filter_eq_self.2]
      intro q hm
      simp [keepC, hq q hm]
    refine .skip (.inl (.skip (.inl (.skip (.loop (fun (a : Int) => 0 ≤ a ∧ a ≤ (l.length : Int) ∧ ∀ q ∈ l.take a.toNat, q ∉ rem) (fun a => ((l.length : Int) - a).toNat)
      (fun (s : Int ⊕ Unit) => (∃ i : Int, s = .inl i ∧ 0 ≤ i ∧ i < l.length ∧ (∀ q ∈ l.take i.toNat, q ∉ rem) ∧ ∃ y, l[i.toNat]? = some y ∧ y ∈ rem) ∨ (s = .inr () ∧ ∀ q ∈ l, q ∉ rem)) rfl ⟨by simp, by simp, fun q hq => by simp at hq⟩ ?_ ?_ ?_)))))
    · simp; omega
    · rintro a ⟨g0, g1, g2⟩
      refine .skip (.br (fun h => .skip ?_) fun h => .skip (.done rfl ?_))
      · simp only [decide_eq_true_eq] at h
        obtain ⟨y, hy, -⟩ := get_some l a.toNat (by omega)
        refine .op () (ifS ⟨g0, h⟩) (.op y hy (.inl (.skip (.op () rfl (.skip (.tidy rfl (.inl ?_)))))))
        rw [hf]
        refine .br (fun hm => .skip (.done rfl ?_)) fun hm => .skip (.done rfl ?_)
        · exact .inl ⟨a, rfl, g0, h, g2, y, hy, by simpa using hm⟩
        · rw [wrap_i64 (by omega) (by omega)]
          refine ⟨⟨by omega, by omega, fun q hq => ?_⟩, by (try simp only); omega⟩
          rw [show (a + 1).toNat = a.toNat + 1 by omega, take_succ_get hy] at hq
          rcases List.mem_append.1 hq with hq | hq
          · exact g2 q hq
          · rw [List.mem_singleton.1 hq]; simpa using hm
      · simp only [decide_eq_false_iff_not] at h
        refine .inr ⟨rfl, fun q hq => g2 q ?_⟩
        rw [List.take_of_length_le (by omega)]; exact hq
    · rintro s (⟨i, rfl, g0, g1, g2, y, hy, hyr⟩ | ⟨rfl, hq⟩)
      · refine .tidy rfl (.inl (.skip (.br (fun h => ?_) fun h => .skip ?_)))
        · simp only [beq_iff_eq] at h; omega
        · rw [wrap_i64 (by omega) (by omega)]
          have keep0 : (l.take i.toNat).filter (keepC rem) = l.take i.toNat := by
            rw [List.filter_eq_self]
            intro q hm
            simp [keepC, g2 q hm]
          refine .loop (fun (a : Int × Int × List (V8 Int)) => 0 ≤ a.1 ∧ a.1 < a.2.1 ∧ a.2.1 ≤ (l.length : Int) ∧ a.2.2.length = l.length ∧ a.2.2.take a.1.toNat = (l.take a.2.1.toNat).filter (keepC rem) ∧ a.2.2.drop a.2.1.toNat = l.drop a.2.1.toNat) (fun a => ((l.length : Int) - a.2.1).toNat)
            (fun (t : Int × List (V8 Int)) => 0 ≤ t.1 ∧ t.1 < (l.length : Int) ∧ t.2.length = l.length ∧ t.2.take t.1.toNat = l.filter (keepC rem)) rfl ⟨g0, by simp only; omega, by simp only; omega, rfl, ?_, rfl⟩ ?_ ?_ ?_
          · simp only
            rw [show (i + 1).toNat = i.toNat + 1 by omega, take_succ_get hy, List.filter_append, keep0]
            simp [keepC, hyr]
          · simp; omega
          · rintro ⟨a, b, m⟩ ⟨k0, k1, k2, k3, k4, k5⟩
            simp only at k0 k1 k2 k3 k4 k5 ⊢
            refine .skip (.br (fun h => .skip ?_) fun h => .skip (.done rfl ?_))
            · simp only [decide_eq_true_eq] at h
              obtain ⟨z, hz, -⟩ := get_some l b.toNat (by omega)
              have hz2 : m[b.toNat]? = some z := by
                have e1 : (m.drop b.toNat)[0]? = m[b.toNat]? := by rw [List.getElem?_drop]; rfl
                have e2 : (l.drop b.toNat)[0]? = l[b.toNat]? := by rw [List.getElem?_drop]; rfl
                rw [← e1, k5, e2, hz]
              have hb1 : (b + 1).toNat = b.toNat + 1 := by omega
              have hd : ∀ m' : List (V8 Int), m'.drop b.toNat = m.drop b.toNat → m'.drop (b.toNat + 1) = l.drop (b.toNat + 1) := by
                intro m' hm'
                have := congrArg (List.drop 1) (hm'.trans k5)
                simpa [List.drop_drop, Nat.add_comm] using this
              refine .op () (ifS ⟨by omega, h⟩) (.op z hz2 (.skip (.inl (.skip (.op () rfl (.skip (.tidy rfl (.inl (.skip ?_)))))))))
              rw [hf]
              refine .br (fun hm => .skip ?_) fun hm => .skip (.done rfl ?_)
              · obtain ⟨w, hw, -⟩ := get_some m a.toNat (by omega)
                refine .op () (ifS ⟨k0, by omega⟩) (.op w hw (.skip (.done rfl ?_)))
                rw [wrap_i64 (by omega) (by omega), wrap_i64 (by omega) (by omega)]
                refine ⟨⟨?_, ?_, ?_, ?_, ?_, ?_⟩, ?_⟩ <;> simp only
                · omega
                · omega
                · omega
                · rw [List.length_set]; exact k3
                · rw [hb1, take_succ_get hz, show (a + 1).toNat = a.toNat + 1 by omega, List.filter_append, ← k4]
                  rw [take_succ_get (x := z) (by rw [List.getElem?_set_self (by omega)]), List.take_set_of_le (Nat.le_refl _)]
                  congr 1
                  simp only [Bool.not_eq_true', decide_eq_false_iff_not] at hm
                  simp [keepC, hm]
                · rw [hb1]
                  exact hd _ (by rw [List.drop_set_of_lt (by omega)])
                · omega
              · rw [wrap_i64 (by omega) (by omega)]
                refine ⟨⟨k0, ?_, ?_, k3, ?_, ?_⟩, ?_⟩ <;> simp only
                · omega
                · omega
                · rw [hb1, take_succ_get hz, List.filter_append, ← k4]
                  simp only [Bool.not_eq_false', decide_eq_true_eq] at hm
                  simp [keepC, hm]
                · rw [hb1]; exact hd _ rfl
                · omega
            · simp only [decide_eq_false_iff_not] at h
              refine ⟨k0, by simp only; omega, k3, ?_⟩
              simp only
              rw [k4, List.take_of_length_le (by omega)]
          · rintro ⟨a, m⟩ ⟨k0, k1, k2, k3⟩
            simp only at k0 k1 k2 k3 ⊢
            have hlen : a.toNat ≤ m.length := by omega
            have ta : ∀ (L : List (V8 Int)), L.take a.toNat = m.take a.toNat → (L.take a.toNat) ++ add = l.filter (keepC rem) ++ add := by
              intro L hL
              rw [hL, k3]
            refine .skip (.sp (fun hz => ?_) fun hz => .sp (fun hl => ?_) fun hl => ?_)
            · have hz0 : a = 0 := by simpa [eqz] using hz
              subst hz0
              have hL : (List.take 0 m ++ List.replicate l.length (@V8.mk Int 0 0 0 0 0 0 0 0) ++ List.drop (0 + l.length) m).length = l.length := by simp; omega
              refine .op () (by show (if (0 : Int) = 0 then some () else none) = some (); rfl) (.op () (ifS (by omega)) (.skip (.op (0 : Nat) (by show (if (0 : Int) ≤ 0 ∧ (0 : Int) ≤ (l.length : Int) then some (0 : Int).toNat else none) = some 0; rw [if_pos ⟨by omega, by omega⟩]; rfl) (.skip (.tidy rfl (.inl (.skip (.op () (hap _ _ (by omega) hL) (.tidy (by simp [tsOk, fzRow]) (fin _ ?_))))))))))
              exact ta _ (by simp)
            · have hla : a < l.length := by simpa [ltn] using hl
              have hz0 : ¬ a = 0 := by simpa [eqz] using hz
              have hL : (List.take (0 + a.toNat) m ++ List.replicate (l.length - a.toNat) (@V8.mk Int 0 0 0 0 0 0 0 0) ++ List.drop ((0 + a.toNat) + (l.length - a.toNat)) m).length = l.length := by simp; omega
              refine .op a.toNat (ifS ⟨by omega, by omega⟩) (.op () (ifS (by omega)) (.skip (.op a.toNat (ifS ⟨by omega, by omega⟩) (.skip (.tidy rfl (.inl (.skip (.op () (hap _ _ (by omega) hL) (.tidy (by simp [tsOk, fzRow]) (fin _ ?_))))))))))
              refine ta _ ?_
              rw [List.append_assoc, List.take_append_of_le_length (by simp; omega), Nat.zero_add, List.take_take, Nat.min_self]
            · have : ¬ a < l.length := by simpa [ltn] using hl
              omega
      · refine .skip (.tidy rfl (.inl (.skip (.tidy rfl (.inl (.skip (.op () (hap _ _ (Nat.le_refl _) rfl) (.tidy (by simp [tsOk, fzRow]) (fin _ ?_)))))))))
        rw [whole hq]
end Go.L
/- What applying a policy answers. No conditions. -/
namespace Go.L
open Go.AM Go.Sort
set_option maxRecDepth 100000
set_option linter.unusedVariables false
set_option linter.unusedSimpArgs false
/-- What is left to do once the rule is found. -/
noncomputable def g_rest (x2 : Go.L.Route) (x14 : Go.L.Rule) : G prog (Sh.El (.one (Prod Go.L.Route Bool))) :=
  .skip 6 <| .call c_slices_Clone_uint32_uint32 x2.A.Path fun (r15 : (List Int)) => .skip 6 <| .call c_slices_Clone_IP_IP x2.A.Clusters fun (r16 : (List Int)) => .skip 6 <| .callR (cn_slices_Clone_Comm_Comm 4) x2.A.Comms fun (r17 : (List (Go.AM.V8 Int))) => .skip 5 <| .br 50 x14.SetPref (.skip 11 <| .br 58 x14.SetMed (.skip 11 <| .op (lenO x14.Remove (Go.AM.eV8 (Go.AM.cI .u8))) fun _ => .skip 2 <| .br 69 ((((List.length x14.Remove) : Nat) : Int) == (0 : Int)) (.skip 2 <| .op (lenO x14.Add (Go.AM.eV8 (Go.AM.cI .u8))) fun _ => .skip 2 <| .br 74 ((((List.length x14.Add) : Nat) : Int) == (0 : Int)) (.skip 4 <| .done [.frz (fzRow (.c 4 31) 4 0 8 (List.length r17) r17 (Go.AM.eV8 (Go.AM.cI .u8)) fun _ => rfl)] ((Go.L.Route.mk x2.N (Go.L.Attrs.mk x2.A.Origin r15 x2.A.Next true x14.Med true x14.Pref x2.A.HasOriginator x2.A.Originator r16 r17 x2.A.Tunnel) x2.Peer x2.Stale), true)) (.skip 8 <| .call1 c_policy_edit 4 0 [] (r17, (List.length r17), x14.Remove, x14.Add) fun (r19 : (List (Go.AM.V8 Int))) => .skip 6 <| .op (lenO r19 (Go.AM.eV8 (Go.AM.cI .u8))) fun _ => .skip 1 <| .br 90 (decide ((((List.length r19) : Nat) : Int) > (64 : Int))) (.skip 4 <| .done [] ((Go.L.Route.mk (Go.L.NLRI.mk (0 : Int) (0 : Int) (@Go.AM.V10.mk Int (0 : Int) (0 : Int) (0 : Int) (0 : Int) (0 : Int) (0 : Int) (0 : Int) (0 : Int) (0 : Int) (0 : Int)) (0 : Int) (0 : Int) (0 : Int) false (Go.L.Prefix.mk (0 : Int) (0 : Int)) (0 : Int) (0 : Int) (0 : Int)) (Go.L.Attrs.mk (0 : Int) [] (0 : Int) false (0 : Int) false (0 : Int) false (0 : Int) [] [] (Go.L.Tunnel.mk (0 : Int) (0 : Int) (0 : Int) (0 : Int))) (0 : Int) false), false)) (.skip 4 <| .done [] ((Go.L.Route.mk x2.N (Go.L.Attrs.mk x2.A.Origin r15 x2.A.Next true x14.Med true x14.Pref x2.A.HasOriginator x2.A.Originator r16 r19 x2.A.Tunnel) x2.Peer x2.Stale), true)))) (.skip 13 <| .call1 c_policy_edit 4 0 [] (r17, (List.length r17), x14.Remove, x14.Add) fun (r22 : (List (Go.AM.V8 Int))) => .skip 6 <| .op (lenO r22 (Go.AM.eV8 (Go.AM.cI .u8))) fun _ => .skip 1 <| .br 90 (decide ((((List.length r22) : Nat) : Int) > (64 : Int))) (.skip 4 <| .done [] ((Go.L.Route.mk (Go.L.NLRI.mk (0 : Int) (0 : Int) (@Go.AM.V10.mk Int (0 : Int) (0 : Int) (0 : Int) (0 : Int) (0 : Int) (0 : Int) (0 : Int) (0 : Int) (0 : Int) (0 : Int)) (0 : Int) (0 : Int) (0 : Int) false (Go.L.Prefix.mk (0 : Int) (0 : Int)) (0 : Int) (0 : Int) (0 : Int)) (Go.L.Attrs.mk (0 : Int) [] (0 : Int) false (0 : Int) false (0 : Int) false (0 : Int) [] [] (Go.L.Tunnel.mk (0 : Int) (0 : Int) (0 : Int) (0 : Int))) (0 : Int) false), false)) (.skip 4 <| .done [] ((Go.L.Route.mk x2.N (Go.L.Attrs.mk x2.A.Origin r15 x2.A.Next true x14.Med true x14.Pref x2.A.HasOriginator x2.A.Originator r16 r22 x2.A.Tunnel) x2.Peer x2.Stale), true)))) (.skip 3 <| .op (lenO x14.Remove (Go.AM.eV8 (Go.AM.cI .u8))) fun _ => .skip 2 <| .br 69 ((((List.length x14.Remove) : Nat) : Int) == (0 : Int)) (.skip 2 <| .op (lenO x14.Add (Go.AM.eV8 (Go.AM.cI .u8))) fun _ => .skip 2 <| .br 74 ((((List.length x14.Add) : Nat) : Int) == (0 : Int)) (.skip 4 <| .done [.frz (fzRow (.c 4 31) 4 0 8 (List.length r17) r17 (Go.AM.eV8 (Go.AM.cI .u8)) fun _ => rfl)] ((Go.L.Route.mk x2.N (Go.L.Attrs.mk x2.A.Origin r15 x2.A.Next x2.A.HasMed x2.A.Med true x14.Pref x2.A.HasOriginator x2.A.Originator r16 r17 x2.A.Tunnel) x2.Peer x2.Stale), true)) (.skip 8 <| .call1 c_policy_edit 4 0 [] (r17, (List.length r17), x14.Remove, x14.Add) fun (r26 : (List (Go.AM.V8 Int))) => .skip 6 <| .op (lenO r26 (Go.AM.eV8 (Go.AM.cI .u8))) fun _ => .skip 1 <| .br 90 (decide ((((List.length r26) : Nat) : Int) > (64 : Int))) (.skip 4 <| .done [] ((Go.L.Route.mk (Go.L.NLRI.mk (0 : Int) (0 : Int) (@Go.AM.V10.mk Int (0 : Int) (0 : Int) (0 : Int) (0 : Int) (0 : Int) (0 : Int) (0 : Int) (0 : Int) (0 : Int) (0 : Int)) (0 : Int) (0 : Int) (0 : Int) false (Go.L.Prefix.mk (0 : Int) (0 : Int)) (0 : Int) (0 : Int) (0 : Int)) (Go.L.Attrs.mk (0 : Int) [] (0 : Int) false (0 : Int) false (0 : Int) false (0 : Int) [] [] (Go.L.Tunnel.mk (0 : Int) (0 : Int) (0 : Int) (0 : Int))) (0 : Int) false), false)) (.skip 4 <| .done [] ((Go.L.Route.mk x2.N (Go.L.Attrs.mk x2.A.Origin r15 x2.A.Next x2.A.HasMed x2.A.Med true x14.Pref x2.A.HasOriginator x2.A.Originator r16 r26 x2.A.Tunnel) x2.Peer x2.Stale), true)))) (.skip 13 <| .call1 c_policy_edit 4 0 [] (r17, (List.length r17), x14.Remove, x14.Add) fun (r29 : (List (Go.AM.V8 Int))) => .skip 6 <| .op (lenO r29 (Go.AM.eV8 (Go.AM.cI .u8))) fun _ => .skip 1 <| .br 90 (decide ((((List.length r29) : Nat) : Int) > (64 : Int))) (.skip 4 <| .done [] ((Go.L.Route.mk (Go.L.NLRI.mk (0 : Int) (0 : Int) (@Go.AM.V10.mk Int (0 : Int) (0 : Int) (0 : Int) (0 : Int) (0 : Int) (0 : Int) (0 : Int) (0 : Int) (0 : Int) (0 : Int)) (0 : Int) (0 : Int) (0 : Int) false (Go.L.Prefix.mk (0 : Int) (0 : Int)) (0 : Int) (0 : Int) (0 : Int)) (Go.L.Attrs.mk (0 : Int) [] (0 : Int) false (0 : Int) false (0 : Int) false (0 : Int) [] [] (Go.L.Tunnel.mk (0 : Int) (0 : Int) (0 : Int) (0 : Int))) (0 : Int) false), false)) (.skip 4 <| .done [] ((Go.L.Route.mk x2.N (Go.L.Attrs.mk x2.A.Origin r15 x2.A.Next x2.A.HasMed x2.A.Med true x14.Pref x2.A.HasOriginator x2.A.Originator r16 r29 x2.A.Tunnel) x2.Peer x2.Stale), true))))) (.skip 3 <| .br 58 x14.SetMed (.skip 11 <| .op (lenO x14.Remove (Go.AM.eV8 (Go.AM.cI .u8))) fun _ => .skip 2 <| .br 69 ((((List.length x14.Remove) : Nat) : Int) == (0 : Int)) (.skip 2 <| .op (lenO x14.Add (Go.AM.eV8 (Go.AM.cI .u8))) fun _ => .skip 2 <| .br 74 ((((List.length x14.Add) : Nat) : Int) == (0 : Int)) (.skip 4 <| .done [.frz (fzRow (.c 4 31) 4 0 8 (List.length r17) r17 (Go.AM.eV8 (Go.AM.cI .u8)) fun _ => rfl)] ((Go.L.Route.mk x2.N (Go.L.Attrs.mk x2.A.Origin r15 x2.A.Next true x14.Med x2.A.HasPref x2.A.Pref x2.A.HasOriginator x2.A.Originator r16 r17 x2.A.Tunnel) x2.Peer x2.Stale), true)) (.skip 8 <| .call1 c_policy_edit 4 0 [] (r17, (List.length r17), x14.Remove, x14.Add) fun (r33 : (List (Go.AM.V8 Int))) => .skip 6 <| .op (lenO r33 (Go.AM.eV8 (Go.AM.cI .u8))) fun _ => .skip 1 <| .br 90 (decide ((((List.length r33) : Nat) : Int) > (64 : Int))) (.skip 4 <| .done [] ((Go.L.Route.mk (Go.L.NLRI.mk (0 : Int) (0 : Int) (@Go.AM.V10.mk Int (0 : Int) (0 : Int) (0 : Int) (0 : Int) (0 : Int) (0 : Int) (0 : Int) (0 : Int) (0 : Int) (0 : Int)) (0 : Int) (0 : Int) (0 : Int) false (Go.L.Prefix.mk (0 : Int) (0 : Int)) (0 : Int) (0 : Int) (0 : Int)) (Go.L.Attrs.mk (0 : Int) [] (0 : Int) false (0 : Int) false (0 : Int) false (0 : Int) [] [] (Go.L.Tunnel.mk (0 : Int) (0 : Int) (0 : Int) (0 : Int))) (0 : Int) false), false)) (.skip 4 <| .done [] ((Go.L.Route.mk x2.N (Go.L.Attrs.mk x2.A.Origin r15 x2.A.Next true x14.Med x2.A.HasPref x2.A.Pref x2.A.HasOriginator x2.A.Originator r16 r33 x2.A.Tunnel) x2.Peer x2.Stale), true)))) (.skip 13 <| .call1 c_policy_edit 4 0 [] (r17, (List.length r17), x14.Remove, x14.Add) fun (r36 : (List (Go.AM.V8 Int))) => .skip 6 <| .op (lenO r36 (Go.AM.eV8 (Go.AM.cI .u8))) fun _ => .skip 1 <| .br 90 (decide ((((List.length r36) : Nat) : Int) > (64 : Int))) (.skip 4 <| .done [] ((Go.L.Route.mk (Go.L.NLRI.mk (0 : Int) (0 : Int) (@Go.AM.V10.mk Int (0 : Int) (0 : Int) (0 : Int) (0 : Int) (0 : Int) (0 : Int) (0 : Int) (0 : Int) (0 : Int) (0 : Int)) (0 : Int) (0 : Int) (0 : Int) false (Go.L.Prefix.mk (0 : Int) (0 : Int)) (0 : Int) (0 : Int) (0 : Int)) (Go.L.Attrs.mk (0 : Int) [] (0 : Int) false (0 : Int) false (0 : Int) false (0 : Int) [] [] (Go.L.Tunnel.mk (0 : Int) (0 : Int) (0 : Int) (0 : Int))) (0 : Int) false), false)) (.skip 4 <| .done [] ((Go.L.Route.mk x2.N (Go.L.Attrs.mk x2.A.Origin r15 x2.A.Next true x14.Med x2.A.HasPref x2.A.Pref x2.A.HasOriginator x2.A.Originator r16 r36 x2.A.Tunnel) x2.Peer x2.Stale), true)))) (.skip 3 <| .op (lenO x14.Remove (Go.AM.eV8 (Go.AM.cI .u8))) fun _ => .skip 2 <| .br 69 ((((List.length x14.Remove) : Nat) : Int) == (0 : Int)) (.skip 2 <| .op (lenO x14.Add (Go.AM.eV8 (Go.AM.cI .u8))) fun _ => .skip 2 <| .br 74 ((((List.length x14.Add) : Nat) : Int) == (0 : Int)) (.skip 4 <| .done [.frz (fzRow (.c 4 31) 4 0 8 (List.length r17) r17 (Go.AM.eV8 (Go.AM.cI .u8)) fun _ => rfl)] ((Go.L.Route.mk x2.N (Go.L.Attrs.mk x2.A.Origin r15 x2.A.Next x2.A.HasMed x2.A.Med x2.A.HasPref x2.A.Pref x2.A.HasOriginator x2.A.Originator r16 r17 x2.A.Tunnel) x2.Peer x2.Stale), true)) (.skip 8 <| .call1 c_policy_edit 4 0 [] (r17, (List.length r17), x14.Remove, x14.Add) fun (r40 : (List (Go.AM.V8 Int))) => .skip 6 <| .op (lenO r40 (Go.AM.eV8 (Go.AM.cI .u8))) fun _ => .skip 1 <| .br 90 (decide ((((List.length r40) : Nat) : Int) > (64 : Int))) (.skip 4 <| .done [] ((Go.L.Route.mk (Go.L.NLRI.mk (0 : Int) (0 : Int) (@Go.AM.V10.mk Int (0 : Int) (0 : Int) (0 : Int) (0 : Int) (0 : Int) (0 : Int) (0 : Int) (0 : Int) (0 : Int) (0 : Int)) (0 : Int) (0 : Int) (0 : Int) false (Go.L.Prefix.mk (0 : Int) (0 : Int)) (0 : Int) (0 : Int) (0 : Int)) (Go.L.Attrs.mk (0 : Int) [] (0 : Int) false (0 : Int) false (0 : Int) false (0 : Int) [] [] (Go.L.Tunnel.mk (0 : Int) (0 : Int) (0 : Int) (0 : Int))) (0 : Int) false), false)) (.skip 4 <| .done [] ((Go.L.Route.mk x2.N (Go.L.Attrs.mk x2.A.Origin r15 x2.A.Next x2.A.HasMed x2.A.Med x2.A.HasPref x2.A.Pref x2.A.HasOriginator x2.A.Originator r16 r40 x2.A.Tunnel) x2.Peer x2.Stale), true)))) (.skip 13 <| .call1 c_policy_edit 4 0 [] (r17, (List.length r17), x14.Remove, x14.Add) fun (r43 : (List (Go.AM.V8 Int))) => .skip 6 <| .op (lenO r43 (Go.AM.eV8 (Go.AM.cI .u8))) fun _ => .skip 1 <| .br 90 (decide ((((List.length r43) : Nat) : Int) > (64 : Int))) (.skip 4 <| .done [] ((Go.L.Route.mk (Go.L.NLRI.mk (0 : Int) (0 : Int) (@Go.AM.V10.mk Int (0 : Int) (0 : Int) (0 : Int) (0 : Int) (0 : Int) (0 : Int) (0 : Int) (0 : Int) (0 : Int) (0 : Int)) (0 : Int) (0 : Int) (0 : Int) false (Go.L.Prefix.mk (0 : Int) (0 : Int)) (0 : Int) (0 : Int) (0 : Int)) (Go.L.Attrs.mk (0 : Int) [] (0 : Int) false (0 : Int) false (0 : Int) false (0 : Int) [] [] (Go.L.Tunnel.mk (0 : Int) (0 : Int) (0 : Int) (0 : Int))) (0 : Int) false), false)) (.skip 4 <| .done [] ((Go.L.Route.mk x2.N (Go.L.Attrs.mk x2.A.Origin r15 x2.A.Next x2.A.HasMed x2.A.Med x2.A.HasPref x2.A.Pref x2.A.HasOriginator x2.A.Originator r16 r43 x2.A.Tunnel) x2.Peer x2.Stale), true)))))
def zeroR : Route := Go.L.Route.mk (Go.L.NLRI.mk (0 : Int) (0 : Int) (@Go.AM.V10.mk Int (0 : Int) (0 : Int) (0 : Int) (0 : Int) (0 : Int) (0 : Int) (0 : Int) (0 : Int) (0 : Int) (0 : Int)) (0 : Int) (0 : Int) (0 : Int) false (Go.L.Prefix.mk (0 : Int) (0 : Int)) (0 : Int) (0 : Int) (0 : Int)) (Go.L.Attrs.mk (0 : Int) [] (0 : Int) false (0 : Int) false (0 : Int) false (0 : Int) [] [] (Go.L.Tunnel.mk (0 : Int) (0 : Int) (0 : Int) (0 : Int))) (0 : Int) false
/-- The route as a rule sets it, with given communities. -/
def setS (x : Rule) (r : Route) (c : List (V8 Int)) : Route :=
  Route.mk r.N (Attrs.mk r.A.Origin r.A.Path r.A.Next (if x.SetMed then true else r.A.HasMed) (if x.SetMed then x.Med else r.A.Med) (if x.SetPref then true else r.A.HasPref) (if x.SetPref then x.Pref else r.A.Pref) r.A.HasOriginator r.A.Originator r.A.Clusters c r.A.Tunnel) r.Peer r.Stale
noncomputable def outS (x : Rule) (r : Route) : Route × Bool :=
  if x.Remove = [] ∧ x.Add = [] then (setS x r r.A.Comms, true)
  else if (editS r.A.Comms x.Remove x.Add).length > 64 then (zeroR, false) else (setS x r (editS r.A.Comms x.Remove x.Add), true)
def LtR (r : Route) : Prop := r.A.Path.length ≤ 40 ∧ r.A.Clusters.length ≤ 20 ∧ r.A.Comms.length ≤ 80
def LtX (x : Rule) : Prop := x.Kinds.length ≤ 10 ∧ x.Targets.length ≤ 10 ∧ x.Add.length ≤ 80 ∧ x.Remove.length ≤ 40

theorem cloneU_ans (N : Nat) (l : List Int) (h : l.length < 1000000) : Ans N (fun n => c_slices_Clone_uint32_uint32.S n l) fun (r : List Int) => r = l := by
  cases l with
  | nil => exact ⟨[], rfl, fun _ _ => rfl⟩
  | cons x l =>
    refine (?_ : AnsG N (g_slices_Clone_uint32_uint32 (x :: l)) _)
    unfold g_slices_Clone_uint32_uint32
    simp only [List.length_cons] at h
    exact .skip (.op () rfl (.skip (.op () (ifS ⟨rfl, by simp [roomy]; omega⟩) (.skip (.done (by simp [tsOk, fzRow]) rfl)))))
theorem cloneI_ans (N : Nat) (l : List Int) (h : l.length < 1000000) : Ans N (fun n => c_slices_Clone_IP_IP.S n l) fun (r : List Int) => r = l := by
  cases l with
  | nil => exact ⟨[], rfl, fun _ _ => rfl⟩
  | cons x l =>
    refine (?_ : AnsG N (g_slices_Clone_IP_IP (x :: l)) _)
    unfold g_slices_Clone_IP_IP
    simp only [List.length_cons] at h
    exact .skip (.op () rfl (.skip (.op () (ifS ⟨rfl, by simp [roomy]; omega⟩) (.skip (.done (by simp [tsOk, fzRow]) rfl)))))
theorem cloneC_ans (N k : Nat) (l : List (V8 Int)) (h : l.length < 1000000) : Ans N (fun n => (cn_slices_Clone_Comm_Comm k).S n l) fun (r : List (V8 Int)) => r = l :=
  ⟨l, rfl, fun n _ => by
    show sn_slices_Clone_Comm_Comm l = some l
    unfold sn_slices_Clone_Comm_Comm
    rw [if_pos (by simp [roomy]; omega)]⟩
theorem len0 {α : Type} (l : List α) : (((List.length l : Nat) : Int) == (0 : Int)) = true ↔ l = [] := by
  rw [beq_iff_eq, ← List.length_eq_zero_iff]; omega
theorem len0f {α : Type} (l : List α) : (((List.length l : Nat) : Int) == (0 : Int)) = false ↔ l ≠ [] := by
  rw [← Bool.not_eq_true, len0]
theorem outS_keep {x : Rule} {r : Route} (h1 : x.Remove = []) (h2 : x.Add = []) : outS x r = (setS x r r.A.Comms, true) := if_pos ⟨h1, h2⟩
theorem outS_edit {x : Rule} {r : Route} (h1 : ¬ (x.Remove = [] ∧ x.Add = [])) : outS x r = if (editS r.A.Comms x.Remove x.Add).length > 64 then (zeroR, false) else (setS x r (editS r.A.Comms x.Remove x.Add), true) := if_neg h1
theorem rest_ans (N : Nat) (r : Route) (x : Rule) (hr : LtR r) (hx : LtX x) (hN : 1000 ≤ N) : AnsG N (g_rest r x) fun (v : Prod Route Bool) => v = outS x r := by
  obtain ⟨r1, r2, r3⟩ := hr
  obtain ⟨x1, x2, x3, x4⟩ := hx
  unfold g_rest
  refine .skip (.call _ (cloneU_ans N _ (by omega)) fun p hp => .skip (.call _ (cloneI_ans N _ (by omega)) fun q hq => .skip (.callR _ (cloneC_ans N 4 _ (by omega)) fun c hc => .skip ?_)))
  subst hp hq hc
  refine .br (fun hp => .skip (.br (fun hm => .skip ?_) fun hm => .skip ?_)) fun hp => .skip (.br (fun hm => .skip ?_) fun hm => .skip ?_)
  all_goals
    refine .op () rfl (.skip (.br (fun h1 => .skip (.op () rfl (.skip (.br (fun h2 => .skip (.done (by simp [tsOk, fzRow]) ?_)) fun h2 => .skip ?_)))) fun h1 => .skip ?_))
    · rw [outS_keep ((len0 _).1 h1) ((len0 _).1 h2)]; simp only [setS, hp, hm]; rfl
    all_goals
      refine .call1 _ (edit_ans N r.A.Comms x.Remove x.Add (by omega) (by omega) (by omega) (by omega) (by omega)) fun e he => .skip (.op () rfl (.skip ?_))
      subst he
      have hne : ¬ (x.Remove = [] ∧ x.Add = []) := by
        intro ⟨e1, e2⟩
        first
          | exact (len0f _).1 h1 e1
          | exact (len0f _).1 h2 e2
      rw [outS_edit hne]
      refine .br (fun h3 => .skip (.done rfl ?_)) fun h3 => .skip (.done rfl ?_)
      · rw [if_pos (by simp only [decide_eq_true_eq] at h3; omega)]; rfl
      · rw [if_neg (by simp only [decide_eq_false_iff_not] at h3; omega)]; simp only [setS, hp, hm]; rfl

/-- What applying rules gives: the first that matches decides. -/
noncomputable def applyS (mt : Rule → Bool) (l : List Rule) (r : Route) : Route × Bool :=
  match l.find? mt with
  | none => (zeroR, false)
  | some x => if x.Permit then outS x r else (zeroR, false)
theorem find_at {α : Type} {p : α → Bool} {l : List α} {t : Nat} {y : α} (hy : l[t]? = some y) (hp : p y = true) (hn : ∀ j z, j < t → l[j]? = some z → p z = false) : l.find? p = some y := by
  obtain ⟨ht, he⟩ := List.getElem?_eq_some_iff.1 hy
  rw [List.find?_eq_some_iff_getElem]
  refine ⟨hp, t, ht, he, fun j hj => ?_⟩
  rw [hn j l[j] hj (List.getElem?_eq_getElem (by omega))]; rfl
theorem find_non {α : Type} {p : α → Bool} {l : List α} (hn : ∀ (j : Nat) z, l[j]? = some z → p z = false) : l.find? p = none := by
  rw [List.find?_eq_none]
  intro x hx
  obtain ⟨j, hj, he⟩ := List.getElem_of_mem hx
  rw [hn j x (by rw [List.getElem?_eq_getElem hj, he])]; simp
theorem uniq_len19 (l : List Int) : (uniq l).length ≤ l.length := by
  unfold uniq Lib.compact Lib.compactUpTo
  rw [List.length_map]
  refine Nat.le_trans (List.length_filter_le _ _) ?_
  simp
noncomputable def tgs (r : Route) : List Int := uniq (r.A.Comms.filterMap tgtS)
theorem tgs_len (r : Route) : (tgs r).length ≤ r.A.Comms.length := Nat.le_trans (uniq_len19 _) (List.length_filterMap_le _ _)
theorem tgs_ans (N : Nat) (r : Route) (hr : LtR r) (hN : 1000 ≤ N) : Ans N (fun n => c_comm_Targets.S n r.A.Comms) fun (t : List Int) => t = tgs r := by
  have := hr.2.2
  exact ⟨tgs r, rfl, fun n hn => targets_run n _ (by omega) (by omega)⟩
/-- Whether a rule matches. -/
noncomputable def mtS (N : Nat) (r : Route) (x : Rule) : Bool := (c_policy_matches.S N (x, r, tgs r) : Option Bool).getD false
theorem mt_ans (N : Nat) (r : Route) (x : Rule) (hr : LtR r) (hx : LtX x) (hN : 1000 ≤ N) : Ans N (fun n => c_policy_matches.S n (x, r, tgs r)) fun (b : Bool) => b = mtS N r x := by
  have h1 := hr.2.2
  have h2 := hx.1
  have h3 := hx.2.1
  have h4 := tgs_len r
  obtain ⟨b, -, hb⟩ := matches_ans N x r (tgs r) (by omega) (by omega) (by omega) (by omega) (by omega) (by omega)
  refine ⟨b, ?_, hb⟩
  exact (congrArg (fun (o : Option Bool) => o.getD false) (hb N (Nat.le_refl _))).symm
theorem apply_ans (N : Nat) (l : List Rule) (r : Route) (hr : LtR r) (hl : ∀ x ∈ l, LtX x) (hN : l.length + 1000 ≤ N) (hll : l.length < 1000000) : Ans N (fun n => c_policy_Apply.S n (l, r)) fun (v : Prod Route Bool) => v = applyS (mtS N r) l r := by
  refine (?_ : AnsG N (g_policy_Apply l r) _)
  unfold g_policy_Apply
  refine .skip (.call _ (tgs_ans N r hr (by omega)) fun t ht => .skip (.inl (.skip (.op () rfl (.skip ?_)))))
  subst ht
  refine .loop (fun (a : Int) => 0 ≤ a ∧ a ≤ (l.length : Int) ∧ ∀ (j : Nat) z, j < a.toNat → l[j]? = some z → mtS N r z = false) (fun a => ((l.length : Int) - a).toNat)
    (fun (s : Int ⊕ Unit) => (∃ i : Int, s = .inl i ∧ 0 ≤ i ∧ i < l.length ∧ ∃ y, l[i.toNat]? = some y ∧ l.find? (mtS N r) = some y) ∨ (s = .inr () ∧ l.find? (mtS N r) = none)) rfl ⟨by simp, by simp, fun j z hj => by simp at hj⟩ ?_ ?_ ?_
  · simp; omega
  · rintro a ⟨g0, g1, g2⟩
    refine .skip (.br (fun h => .skip ?_) fun h => .skip (.done rfl ?_))
    · simp only [decide_eq_true_eq] at h
      obtain ⟨y, hy, hg⟩ := idx_get l eRule 15 a g0 h
      refine .op y hy (.skip (.inl (.skip (.call _ (mt_ans N r y hr (hl y (List.mem_of_getElem? hg)) (by omega)) fun b hb => .skip (.tidy rfl (.inl ?_))))))
      subst hb
      refine .br (fun hm => .skip (.done rfl ?_)) fun hm => .skip (.done rfl ?_)
      · exact .inl ⟨a, rfl, g0, h, y, hg, find_at hg hm g2⟩
      · rw [wrap_i64 (by omega) (by omega)]
        refine ⟨⟨by omega, by omega, fun j z hj hz => ?_⟩, by (try simp only); omega⟩
        by_cases he : j = a.toNat
        · subst he
          rw [hg] at hz
          cases hz; exact hm
        · exact g2 j z (by omega) hz
    · simp only [decide_eq_false_iff_not] at h
      refine .inr ⟨rfl, find_non fun j z hz => g2 j z ?_ hz⟩
      have := (List.getElem?_eq_some_iff.1 hz).1
      omega
  · rintro s (⟨i, rfl, g0, g1, y, hg, hf⟩ | ⟨rfl, hf⟩)
    · obtain ⟨y', hy', hg'⟩ := idx_get l eRule 15 i g0 g1
      obtain rfl : y' = y := Option.some.inj (hg'.symm.trans hg)
      refine .tidy rfl (.inl (.skip (.br (fun h => by simp only [decide_eq_true_eq] at h; omega) fun h => .skip (.op y' hy' (.skip ?_)))))
      refine .br (fun h => .skip (.done rfl ?_)) fun h => .skip (.op y' hy' ?_)
      · simp only [applyS, hf]
        rw [if_neg (by simpa using h)]; rfl
      · have e : applyS (mtS N r) l r = outS y' r := by
          simp only [applyS, hf]
          rw [if_pos (by simpa using h)]
        rw [e]
        exact rest_ans N r y' hr (hl y' (List.mem_of_getElem? hg)) (by omega)
    · refine .skip (.tidy rfl (.inl (.skip (.done rfl ?_))))
      simp only [applyS, hf]; rfl

theorem same_u (N : Nat) (l : List Int) (hl : l.length < 1000000) (hN : l.length < N) : Ans N (fun n => c_kit_Same_uint32.S n (l, l)) fun (b : Bool) => b = true := by
  refine (?_ : AnsG N (g_kit_Same_uint32 l l) _)
  unfold g_kit_Same_uint32
  refine .skip (.op () rfl (.skip (.op () rfl (.skip (.br (fun h => by simp at h) fun h => .skip ?_)))))
  refine .loop (fun (a : Int) => 0 ≤ a ∧ a ≤ (l.length : Int)) (fun a => ((l.length : Int) - a).toNat) (fun (s : Unit ⊕ Unit) => s = .inr ()) rfl ⟨by simp, by simp⟩ ?_ ?_ ?_
  · simp; omega
  · rintro a ⟨g0, g1⟩
    refine .skip (.op () rfl (.skip (.br (fun h => .skip ?_) fun h => .skip (.done rfl rfl))))
    simp only [decide_eq_true_eq] at h
    obtain ⟨y, hy, hg⟩ := idx_get l (eI .u32) 1 a g0 h
    refine .op y hy (.skip (.op y hy (.skip (.br (fun h => by simp at h) fun h => .skip (.done rfl ?_)))))
    rw [wrap_i64 (by omega) (by omega)]
    exact ⟨⟨by omega, by omega⟩, by (try simp only); omega⟩
  · rintro s rfl
    exact .skip (.done rfl rfl)
theorem same_ip (N : Nat) (l : List Int) (hl : l.length < 1000000) (hN : l.length < N) : Ans N (fun n => c_kit_Same_IP.S n (l, l)) fun (b : Bool) => b = true := by
  refine (?_ : AnsG N (g_kit_Same_IP l l) _)
  unfold g_kit_Same_IP
  refine .skip (.op () rfl (.skip (.op () rfl (.skip (.br (fun h => by simp at h) fun h => .skip ?_)))))
  refine .loop (fun (a : Int) => 0 ≤ a ∧ a ≤ (l.length : Int)) (fun a => ((l.length : Int) - a).toNat) (fun (s : Unit ⊕ Unit) => s = .inr ()) rfl ⟨by simp, by simp⟩ ?_ ?_ ?_
  · simp; omega
  · rintro a ⟨g0, g1⟩
    refine .skip (.op () rfl (.skip (.br (fun h => .skip ?_) fun h => .skip (.done rfl rfl))))
    simp only [decide_eq_true_eq] at h
    obtain ⟨y, hy, hg⟩ := idx_get l (eI .u32) 1 a g0 h
    refine .op y hy (.skip (.op y hy (.skip (.br (fun h => by simp at h) fun h => .skip (.done rfl ?_)))))
    rw [wrap_i64 (by omega) (by omega)]
    exact ⟨⟨by omega, by omega⟩, by (try simp only); omega⟩
  · rintro s rfl
    exact .skip (.done rfl rfl)
theorem same_c (N : Nat) (l : List (V8 Int)) (hl : l.length < 1000000) (hN : l.length < N) : Ans N (fun n => c_kit_Same_Comm.S n (l, l)) fun (b : Bool) => b = true := by
  refine (?_ : AnsG N (g_kit_Same_Comm l l) _)
  unfold g_kit_Same_Comm
  refine .skip (.op () rfl (.skip (.op () rfl (.skip (.br (fun h => by simp at h) fun h => .skip ?_)))))
  refine .loop (fun (a : Int) => 0 ≤ a ∧ a ≤ (l.length : Int)) (fun a => ((l.length : Int) - a).toNat) (fun (s : Unit ⊕ Unit) => s = .inr ()) rfl ⟨by simp, by simp⟩ ?_ ?_ ?_
  · simp; omega
  · rintro a ⟨g0, g1⟩
    refine .skip (.op () rfl (.skip (.br (fun h => .skip ?_) fun h => .skip (.done rfl rfl))))
    simp only [decide_eq_true_eq] at h
    obtain ⟨y, hy, hg⟩ := idx_get l (eV8 (cI .u8)) 8 a g0 h
    refine .op y hy (.skip (.op y hy (.skip (.br (fun h => by simp at h) fun h => .skip (.done rfl ?_)))))
    rw [wrap_i64 (by omega) (by omega)]
    exact ⟨⟨by omega, by omega⟩, by (try simp only); omega⟩
  · rintro s rfl
    exact .skip (.done rfl rfl)
def MdR (r : Route) : Prop := r.A.Path.length ≤ 900 ∧ r.A.Clusters.length ≤ 900 ∧ r.A.Comms.length ≤ 900
theorem sameA_ans (N : Nat) (x : Attrs) (h1 : x.Path.length ≤ 900) (h2 : x.Clusters.length ≤ 900) (h3 : x.Comms.length ≤ 900) (hN : 1000 ≤ N) : Ans N (fun n => c_kit_SameAttrs.S n (x, x)) fun (b : Bool) => b = true := by
  refine (?_ : AnsG N (g_kit_SameAttrs x x) _)
  unfold g_kit_SameAttrs
  refine .skip (.br (fun _ => .skip ?_) fun h => by simp at h)
  refine .call _ (same_u N _ (by omega) (by omega)) fun b hb => .skip (.br (fun _ => .skip ?_) fun h => by rw [hb] at h; cases h)
  refine .br (fun _ => .skip ?_) fun h => by simp at h
  refine .br (fun _ => .skip ?_) fun h => by simp at h
  refine .br (fun _ => .skip ?_) fun h => by simp at h
  refine .br (fun _ => .skip ?_) fun h => by simp at h
  refine .br (fun _ => .skip ?_) fun h => by simp at h
  refine .br (fun _ => .skip ?_) fun h => by simp at h
  refine .br (fun _ => .skip ?_) fun h => by simp at h
  refine .call _ (same_ip N _ (by omega) (by omega)) fun b hb => .skip (.br (fun _ => .skip ?_) fun h => by rw [hb] at h; cases h)
  refine .call _ (same_c N _ (by omega) (by omega)) fun b hb => .skip (.br (fun _ => .skip ?_) fun h => by rw [hb] at h; cases h)
  exact .done rfl (by simp)
theorem same_ans (N : Nat) (x : Route) (h : MdR x) (hN : 1000 ≤ N) : Ans N (fun n => c_kit_SameRoute.S n (x, x)) fun (b : Bool) => b = true := by
  refine (?_ : AnsG N (g_kit_SameRoute x x) _)
  unfold g_kit_SameRoute
  refine .skip (.br (fun _ => .skip ?_) fun h => by simp at h)
  refine .call _ (sameA_ans N x.A h.1 h.2.1 h.2.2 hN) fun b hb => .skip (.br (fun _ => .skip ?_) fun h => by rw [hb] at h; cases h)
  refine .br (fun _ => .skip ?_) fun h => by simp at h
  exact .done rfl (by simp)
theorem outS_md (x : Rule) (r : Route) (hr : LtR r) (hx : LtX x) : MdR (outS x r).1 := by
  obtain ⟨r1, r2, r3⟩ := hr
  unfold outS
  split
  · exact ⟨by simp only [setS]; omega, by simp only [setS]; omega, by simp only [setS]; omega⟩
  · split
    · exact ⟨by simp [zeroR], by simp [zeroR], by simp [zeroR]⟩
    · exact ⟨by simp only [setS]; omega, by simp only [setS]; omega, by simp only [setS]; omega⟩
theorem applyS_md (mt : Rule → Bool) (l : List Rule) (r : Route) (hr : LtR r) (hl : ∀ x ∈ l, LtX x) : MdR (applyS mt l r).1 := by
  unfold applyS
  split
  · exact ⟨by simp [zeroR], by simp [zeroR], by simp [zeroR]⟩
  · rename_i x hx
    split
    · exact outS_md x r hr (hl x (List.mem_of_find?_eq_some hx))
    · exact ⟨by simp [zeroR], by simp [zeroR], by simp [zeroR]⟩
end Go.L
/- The plain law of PolicyFirst. No conditions. -/
namespace Go.L
open Go.AM Go.Sort
set_option maxRecDepth 100000
set_option linter.unusedVariables false
set_option linter.unusedSimpArgs false
theorem nf {b : Bool} (h : (!b) = false) : b = true := by simpa using h
theorem nt {b : Bool} (h : (!b) = true) : b = false := by simpa using h
theorem lives_ans (N : Nat) : Ans N (fun n => c_law19_lives.S n ()) fun (b : Bool) => b = true := ⟨true, rfl, fun _ _ => rfl⟩
theorem lightR_ans (N : Nat) (r : Route) : Ans N (fun n => c_kit_LightRoute.S n r) fun (b : Bool) => b = true → LtR r := by
  refine (?_ : AnsG N (g_kit_LightRoute r) _)
  unfold g_kit_LightRoute
  refine .skip (.op () rfl (.skip (.br (fun h1 => .skip (.op () rfl (.skip (.br (fun h2 => .skip (.op () rfl (.skip (.done rfl fun h3 => ?_)))) fun _ => .skip (.done rfl fun h => by cases h))))) fun _ => .skip (.done rfl fun h => by cases h))))
  simp only [decide_eq_true_eq] at h1 h2 h3
  exact ⟨by omega, by omega, by omega⟩
theorem lightRs_ans (N : Nat) (l : List Route) (k : Int) (hl : l.length < 1000000) (hN : l.length < N) : Ans N (fun n => c_kit_LightRoutes.S n (l, k)) fun (b : Bool) => b = true → ∀ r ∈ l, LtR r := by
  refine (?_ : AnsG N (g_kit_LightRoutes l k) _)
  unfold g_kit_LightRoutes
  refine .skip (.loop (fun (a : Int) => 0 ≤ a ∧ a ≤ (l.length : Int) ∧ ∀ (j : Nat) z, j < a.toNat → l[j]? = some z → LtR z) (fun a => ((l.length : Int) - a).toNat) (fun (s : Unit ⊕ Unit) => s = .inr () → ∀ r ∈ l, LtR r) rfl ⟨by simp, by simp, fun j z hj => by simp at hj⟩ ?_ ?_ ?_)
  · simp; omega
  · rintro a ⟨g0, g1, g2⟩
    refine .skip (.op () rfl (.skip (.br (fun h => .skip ?_) fun h => .skip (.done rfl ?_))))
    · simp only [decide_eq_true_eq] at h
      obtain ⟨y, hy, hg⟩ := idx_get l eRoute 38 a g0 h
      refine .op y hy (.skip (.call _ (lightR_ans N y) fun b hb => .skip (.br (fun h => .skip (.done rfl fun e => by cases e)) fun hm => .skip (.done rfl ?_))))
      rw [wrap_i64 (by omega) (by omega)]
      refine ⟨⟨by omega, by omega, fun j z hj hz => ?_⟩, by (try simp only); omega⟩
      by_cases he : j = a.toNat
      · subst he
        rw [hg] at hz
        cases hz; exact hb (nf hm)
      · exact g2 j z (by omega) hz
    · simp only [decide_eq_false_iff_not] at h
      intro _ r hr
      obtain ⟨j, hj, he⟩ := List.getElem_of_mem hr
      exact g2 j r (by omega) (by rw [List.getElem?_eq_getElem hj, he])
  · rintro (s | s) hs
    · exact .done rfl fun h => by cases h
    · exact .skip (.op () rfl (.skip (.done rfl fun _ => hs rfl)))
theorem light_ans (N : Nat) (l : List Rule) (i : List Import) (rs : List Route) (hl : (l.length : Int) ≤ 9223372036854775807) (hN : l.length < N) (hl2 : rs.length < 1000000) (hN2 : rs.length < N) :
    Ans N (fun n => c_law19_light.S n (l, i, rs)) fun (b : Bool) => b = true → (∀ x ∈ l, LtX x) ∧ (∀ r ∈ rs, LtR r) ∧ l.length ≤ 20 := by
  refine (?_ : AnsG N (g_law19_light l i rs) _)
  unfold g_law19_light
  refine .skip (.loop (fun (a : Int) => 0 ≤ a ∧ a ≤ (l.length : Int) ∧ ∀ (j : Nat) z, j < a.toNat → l[j]? = some z → LtX z) (fun a => ((l.length : Int) - a).toNat) (fun (s : Unit ⊕ Unit) => s = .inr () → ∀ r ∈ l, LtX r) rfl ⟨by simp, by simp, fun j z hj => by simp at hj⟩ ?_ ?_ ?_)
  · simp; omega
  · rintro a ⟨g0, g1, g2⟩
    refine .skip (.op () rfl (.skip (.br (fun h => .skip ?_) fun h => .skip (.done rfl ?_))))
    · simp only [decide_eq_true_eq] at h
      obtain ⟨y, hy, hg⟩ := idx_get l eRule 15 a g0 h
      refine .op y hy (.skip (.op () rfl (.skip (.br (fun h => .skip (.done rfl fun e => by cases e)) fun k1 => .skip ?_))))
      refine .op y hy (.skip (.op () rfl (.skip (.br (fun h => .skip (.done rfl fun e => by cases e)) fun k2 => .skip ?_))))
      refine .op y hy (.skip (.op () rfl (.skip (.br (fun h => .skip (.done rfl fun e => by cases e)) fun k3 => .skip ?_))))
      refine .op y hy (.skip (.op () rfl (.skip (.br (fun h => .skip (.done rfl fun e => by cases e)) fun k4 => .skip (.done rfl ?_)))))
      simp only [decide_eq_false_iff_not] at k1 k2 k3 k4
      rw [wrap_i64 (by omega) (by omega)]
      refine ⟨⟨by omega, by omega, fun j z hj hz => ?_⟩, by (try simp only); omega⟩
      by_cases he : j = a.toNat
      · subst he
        rw [hg] at hz
        cases hz; exact ⟨by omega, by omega, by omega, by omega⟩
      · exact g2 j z (by omega) hz
    · simp only [decide_eq_false_iff_not] at h
      intro _ r hr
      obtain ⟨j, hj, he⟩ := List.getElem_of_mem hr
      exact g2 j r (by omega) (by rw [List.getElem?_eq_getElem hj, he])
  · rintro (s | s) hs
    · exact .done rfl fun h => by cases h
    · refine .skip (.op () rfl (.skip (.br (fun hk => .skip (.op () rfl (.skip (.br (fun _ => .skip ?_) fun _ => .skip (.done rfl fun h => by cases h))))) fun _ => .skip (.done rfl fun h => by cases h))))
      exact .call _ (lightRs_ans N rs _ hl2 hN2) fun b hb => .skip (.done rfl fun h => ⟨hs rfl, hb h, by simp only [decide_eq_true_eq] at hk; omega⟩)
theorem Matches_ans (N : Nat) (r : Route) (x : Rule) (hr : LtR r) (hx : LtX x) (hN : 1000 ≤ N) : Ans N (fun n => c_policy_Matches.S n (x, r)) fun (b : Bool) => b = mtS N r x := by
  refine (?_ : AnsG N (g_policy_Matches x r) _)
  unfold g_policy_Matches
  refine .skip (.call _ (tgs_ans N r hr hN) fun t ht => ?_)
  subst ht
  exact .call _ (mt_ans N r x hr hx hN) fun b hb => .skip (.done rfl hb)
theorem owni_ans (N : Nat) (l : List Int) (h : l.length < 1000000) : Ans N (fun n => c_kit_Own_int.S n l) fun (r : List Int) => r = l := by
  refine (?_ : AnsG N (g_kit_Own_int l) _)
  unfold g_kit_Own_int
  exact .skip (.op () (ifS ⟨rfl, by simp [roomy]; omega⟩) (.skip (.done (by simp [tsOk, fzRow]) rfl)))
theorem ownu_ans (N : Nat) (l : List Int) (h : l.length < 1000000) : Ans N (fun n => c_kit_Own_uint32.S n l) fun (r : List Int) => r = l := by
  refine (?_ : AnsG N (g_kit_Own_uint32 l) _)
  unfold g_kit_Own_uint32
  exact .skip (.op () (ifS ⟨rfl, by simp [roomy]; omega⟩) (.skip (.done (by simp [tsOk, fzRow]) rfl)))
theorem ownc_ans (N : Nat) (l : List (V8 Int)) (h : l.length < 1000000) : Ans N (fun n => c_kit_Own_Comm.S n l) fun (r : List (V8 Int)) => r = l := by
  refine (?_ : AnsG N (g_kit_Own_Comm l) _)
  unfold g_kit_Own_Comm
  exact .skip (.op () (ifS ⟨rfl, by simp [roomy]; omega⟩) (.skip (.done (by simp [tsOk, fzRow]) rfl)))
theorem Ans.guard {α : Type} {N : Nat} {c : Prop} [Decidable c] {f : Nat → Option α} {p : α → Prop} (hc : c) (h : Ans N f p) : Ans N (fun n => if c then f n else none) p := by
  simp only [hc, if_true]; exact h
end Go.L
/- A list that is handed over has a length that an int holds. No conditions. -/
namespace Go.L
open Go.AM Go
set_option linter.unusedVariables false
theorem lst_len {P : Program} {w : World} {r : Reach} {base : Nat} {T e : TypeId} {v : Value} {g : Gh} {rows : List (List AVal)} (hu : P.underlying T = some (.slice e)) (hval : Value.okWide P w r base T v) (hR : R g w (.lst rows) v) :
    (rows.length : Int) ≤ 9223372036854775807 := by
  simp only [R] at hR
  obtain ⟨a, cap, rfl, hle, -⟩ := hR
  unfold Value.okWide at hval
  rw [hu] at hval
  simp only [Cell.okWide, hu, Cell.ok] at hval
  cases a with
  | none =>
    split at hval
    all_goals first | exact hval.elim | skip
    all_goals simp_all
  | some a =>
    have h2 : (cap : Int) ≤ IntKind.i64.max := hval.2.1
    have h3 : IntKind.i64.max = 9223372036854775807 := rfl
    omega
end Go.L
