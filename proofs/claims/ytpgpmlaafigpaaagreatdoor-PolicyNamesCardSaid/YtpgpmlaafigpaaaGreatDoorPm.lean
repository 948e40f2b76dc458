/- Put together out of parts. No conditions. -/
import Derived.Test.YtpgpmlaafigpaaaGreatDoorAmPl
import Derived.Test.YtpgpmlaafigpaaaGreatDoorWi
import Derived.Test.YtpgpmlaafigpaaaGreatDoorWn
/- Functions that answer, with an answer that does not depend on the fuel. No conditions. -/
namespace Go.AM
set_option linter.unusedVariables false

/-- With N or more to burn it answers, and always the same, and the answer is so. -/
def Ans {α : Type} (N : Nat) (f : Nat → Option α) (p : α → Prop) : Prop := ∃ r, p r ∧ ∀ n, N ≤ n → f n = Option.some r

theorem Ans.of {α : Type} {N : Nat} {p : α → Prop} (r : α) (h : p r) : Ans N (fun _ => Option.some r) p := ⟨r, h, fun _ _ => rfl⟩
theorem Ans.mono {α : Type} {N : Nat} {f : Nat → Option α} {p q : α → Prop} (h : Ans N f p) (hp : ∀ r, p r → q r) : Ans N f q := by
  obtain ⟨r, h1, h2⟩ := h
  exact ⟨r, hp r h1, h2⟩
theorem Ans.bind {α β : Type} {N : Nat} {f : Nat → Option α} {g : Nat → α → Option β} {p : α → Prop} {q : β → Prop} (h : Ans N f p) (hg : ∀ a, p a → Ans N (fun n => g n a) q) : Ans N (fun n => (f n).bind (g n)) q := by
  obtain ⟨a, h1, h2⟩ := h
  obtain ⟨b, h3, h4⟩ := hg a h1
  exact ⟨b, h3, fun n hn => by show (f n).bind (g n) = _; rw [h2 n hn]; exact h4 n hn⟩
theorem Ans.ite {α : Type} {N : Nat} {c : Prop} [Decidable c] {f g : Nat → Option α} {p : α → Prop} (hf : c → Ans N f p) (hg : ¬ c → Ans N g p) : Ans N (fun n => if c then f n else g n) p := by
  by_cases hc : c
  · simp only [hc, if_true]; exact hf hc
  · simp only [hc, if_false]; exact hg hc
theorem Ans.up {α : Type} {N M : Nat} {f : Nat → Option α} {p : α → Prop} (h : Ans N f p) (hm : N ≤ M) : Ans M f p := by
  obtain ⟨r, h1, h2⟩ := h
  exact ⟨r, h1, fun n hn => h2 n (Nat.le_trans hm hn)⟩

/-- How a round may end. -/
def RoundOk {σ τ : Type} (I : σ → Prop) (m : σ → Nat) (p : τ → Prop) (a : σ) : σ ⊕ τ → Prop
  | .inl b => I b ∧ m b < m a
  | .inr t => p t

/-- A loop whose rounds answer, with a measure. -/
theorem Ans.loopK {σ τ : Type} {N : Nat} {body : Nat → σ → Option (σ ⊕ τ)} (I : σ → Prop) (m : σ → Nat) (p : τ → Prop)
    (h : ∀ a, I a → Ans N (fun n => body n a) (RoundOk I m p a)) :
    ∀ (M : Nat) (a : σ), I a → m a < M → ∃ r, p r ∧ ∀ n, N ≤ n → ∀ k, M ≤ k → iterO (body n) k a = Option.some r
  | 0, a, _, hm => absurd hm (Nat.not_lt_zero _)
  | M + 1, a, hI, hm => by
    obtain ⟨r, h1, h2⟩ := h a hI
    cases r with
    | inl b =>
      obtain ⟨t, h3, h4⟩ := Ans.loopK I m p h M b h1.1 (by have := h1.2; omega)
      refine ⟨t, h3, fun n hn k hk => ?_⟩
      cases k with
      | zero => omega
      | succ k => simp only [iterO, h2 n hn]; exact h4 n hn k (by omega)
    | inr t =>
      refine ⟨t, h1, fun n hn k hk => ?_⟩
      cases k with
      | zero => omega
      | succ k => simp only [iterO, h2 n hn]

theorem Ans.loop {σ τ : Type} {N : Nat} {body : Nat → σ → Option (σ ⊕ τ)} {a : σ} (I : σ → Prop) (m : σ → Nat) (p : τ → Prop) (hI : I a) (hm : m a < N)
    (h : ∀ a, I a → Ans N (fun n => body n a) (RoundOk I m p a)) : Ans N (fun n => iterO (body n) n a) p := by
  obtain ⟨r, h1, h2⟩ := Ans.loopK I m p h N a hI hm
  exact ⟨r, h1, fun n hn => h2 n hn n hn⟩

/-! ### Guides that answer -/
section
variable {P : Program} [Globs] {ρ : Type} {N : Nat} {p : ρ → Prop}
def AnsG (N : Nat) (g : G P ρ) (p : ρ → Prop) : Prop := Ans N (fun n => g.run n) p
theorem AnsG.skip {m : Nat} {g : G P ρ} (h : AnsG N g p) : AnsG N (.skip m g) p := h
theorem AnsG.br {d : Tmp} {c : Bool} {t f : G P ρ} (ht : c = true → AnsG N t p) (hf : c = false → AnsG N f p) : AnsG N (.br d c t f) p := by
  show Ans N (fun n => if c then t.run n else f.run n) p
  exact Ans.ite ht (fun h => hf (by simpa using h))
theorem AnsG.call {c : Ctr P} {x : c.X} {k : c.sh.El → G P ρ} (q : c.sh.El → Prop) (h : Ans N (fun n => c.S n x) q) (hk : ∀ r, q r → AnsG N (k r) p) : AnsG N (.call c x k) p :=
  Ans.bind (f := fun n => c.S n x) (g := fun n r => (k r).run n) h hk
theorem AnsG.op {X : Type} {t : OpT X} {k : X → G P ρ} (x : X) (h : t.run = some x) (hk : AnsG N (k x) p) : AnsG N (.op t k) p := by
  obtain ⟨r, h1, h2⟩ := hk
  exact ⟨r, h1, fun n hn => by show t.run.bind (fun x => (k x).run n) = _; rw [h]; exact h2 n hn⟩
theorem AnsG.done {ts : List TS} {r : ρ} (ht : tsOk ts = true) (h : p r) : AnsG (P := P) N (.done ts r) p :=
  ⟨r, h, fun n _ => by show (if tsOk ts = true then some r else none) = _; rw [if_pos ht]⟩
theorem AnsG.tidy {ts : List TS} {g : G P ρ} (ht : tsOk ts = true) (h : AnsG N g p) : AnsG N (.tidy ts g) p := by
  obtain ⟨r, h1, h2⟩ := h
  exact ⟨r, h1, fun n hn => by show (if tsOk ts = true then g.run n else none) = _; rw [if_pos ht]; exact h2 n hn⟩
theorem AnsG.unroll {m : Nat} {g : G P ρ} (h : AnsG N g p) : AnsG N (.unroll m g) p := h
theorem AnsG.join {sh : Sh} {Y : sh.El → AOut × St} {g : G P sh.El} {k : sh.El → G P ρ} (q : sh.El → Prop) (h : AnsG N g q) (hk : ∀ t, q t → AnsG N (k t) p) : AnsG N (.join sh Y g k) p :=
  Ans.bind (f := fun n => g.run n) (g := fun n t => (k t).run n) h hk
theorem AnsG.inl {pr : List PR} {g : G P ρ} (h : AnsG N g p) : AnsG N (.inl pr g) p := h
theorem AnsG.sp {c : Bool} {t f : G P ρ} (ht : c = true → AnsG N t p) (hf : c = false → AnsG N f p) : AnsG N (.sp c t f) p := by
  show Ans N (fun n => if c then t.run n else f.run n) p
  exact Ans.ite ht (fun h => hf (by simpa using h))
theorem AnsG.callR {c : CtrR P} {x : c.X} {k : c.sh.El → G P ρ} (q : c.sh.El → Prop) (h : Ans N (fun n => c.S n x) q) (hk : ∀ r, q r → AnsG N (k r) p) : AnsG N (.callR c x k) p :=
  Ans.bind (f := fun n => c.S n x) (g := fun n r => (k r).run n) h hk
theorem AnsG.call1 {c : Ctr1 P} {b v : Nat} {ex : List PR} {x : c.X} {k : c.sh.El → G P ρ} (q : c.sh.El → Prop) (h : Ans N (fun n => c.S n x) q) (hk : ∀ r, q r → AnsG N (k r) p) : AnsG N (.call1 c b v ex x k) p :=
  Ans.bind (f := fun n => c.S n x) (g := fun n r => (k r).run n) h hk
theorem AnsG.loop {σ : Type} {sh : Sh} {hd : List TS} {E : σ → St} {X : sh.El → AOut × St} {a0 : σ} {body : σ → G P (σ ⊕ sh.El)} {k : sh.El → G P ρ} (I : σ → Prop) (m : σ → Nat) (q : sh.El → Prop)
    (ht : tsOk hd = true) (hI : I a0) (hm : m a0 < N) (hb : ∀ a, I a → AnsG N (body a) (RoundOk I m q a))
    (hk : ∀ t, q t → AnsG N (k t) p) : AnsG N (.loop sh hd E X a0 body k) p := by
  have h1 := Ans.bind (f := fun n => iterO (fun a => (body a).run n) n a0) (g := fun n t => (k t).run n) (Ans.loop (N := N) (body := fun n a => (body a).run n) I m q hI hm hb) hk
  obtain ⟨r, h2, h3⟩ := h1
  exact ⟨r, h2, fun n hn => by show (if tsOk hd = true then (iterO (fun a => (body a).run n) n a0).bind fun t => (k t).run n else none) = _; rw [if_pos ht]; exact h3 n hn⟩
end
end Go.AM
/- What policy.Imports looks at answers. No conditions. -/
namespace Go.L
open Go.AM
set_option maxRecDepth 100000
set_option linter.unusedVariables false
def okPre (p : Prefix) : Bool := decide (0 ≤ p.Len) && decide (p.Len ≤ 32)
theorem valid_ans (N : Nat) (p : Prefix) : Ans N (fun n => c_addr_valid.S n p) fun (b : Bool) => b = true → 0 ≤ p.Len ∧ p.Len ≤ 32 := by
  refine (?_ : AnsG N (g_addr_valid p) _)
  unfold g_addr_valid
  refine .skip (.br (fun h => .skip (.done rfl ?_)) fun h => .skip (.done rfl ?_))
  · intro h2
    simp only [ge_iff_le, decide_eq_true_eq] at h h2
    exact ⟨h, h2⟩
  · intro h2; cases h2
theorem mask_ans (N : Nat) (x : Int) (h0 : 0 ≤ x) (h1 : x ≤ 32) : Ans N (fun n => c_addr_mask.S n x) fun (_ : Int) => True := by
  refine (?_ : AnsG N (g_addr_mask x) _)
  unfold g_addr_mask
  refine .skip (.op () ?_ (.skip (.done rfl trivial)))
  have : Go.IntKind.wrap .i64 (32 - x) = 32 - x := wrap_i64 (by omega) (by omega)
  rw [this]
  show (if decide (0 ≤ 32 - x) = true then some () else none) = _
  rw [if_pos (by simp; omega)]
theorem contains_ans (N : Nat) (p : Prefix) (ip : Int) : Ans N (fun n => c_addr_Contains.S n (p, ip)) fun (_ : Bool) => True := by
  refine (?_ : AnsG N (g_addr_Contains p ip) _)
  unfold g_addr_Contains
  refine .skip (.call _ (valid_ans N p) fun b hb => .skip (.br (fun h => ?_) fun h => .skip (.done rfl trivial)))
  obtain ⟨h0, h1⟩ := hb h
  exact .skip (.call _ (mask_ans N p.Len h0 h1) fun _ _ => .skip (.done rfl trivial))
theorem covers_ans (N : Nat) (p q : Prefix) : Ans N (fun n => c_addr_Covers.S n (p, q)) fun (_ : Bool) => True := by
  refine (?_ : AnsG N (g_addr_Covers p q) _)
  unfold g_addr_Covers
  refine .skip (.call _ (valid_ans N p) fun b hb => .skip (.br (fun h => .skip (.call _ (valid_ans N q) fun c hc => .skip (.br (fun h2 => .skip (.br (fun h3 => .skip (.call _ (contains_ans N p q.IP) fun _ _ => .skip (.done rfl trivial))) fun h3 => .skip (.done rfl trivial))) fun h2 => .skip (.done rfl trivial)))) fun h => .skip (.done rfl trivial)))
theorem prefix_ans (N : Nat) (r : Route) : Ans N (fun n => c_policy_Prefix.S n r) fun (_ : Prod Prefix Bool) => True := by
  refine (?_ : AnsG N (g_policy_Prefix r) _)
  unfold g_policy_Prefix
  (repeat' first | exact AnsG.done rfl trivial | refine AnsG.skip ?_ | refine AnsG.inl ?_ | refine AnsG.br (fun _ => ?_) (fun _ => ?_))
theorem idx_some {X : Type} (l : List X) (enc : X → List AVal) (n : Nat) (i : Int) (h0 : 0 ≤ i) (h1 : i < (l.length : Int)) : ∃ x, (idxO l enc n i).run = some x := by
  have h2 : i.toNat < l.length := by omega
  refine ⟨l[i.toNat], ?_⟩
  show at? l i = _
  simp [at?, h0, h2]
theorem nan_ans (N : Nat) (x : Int) : Ans N (fun n => c_cmp_isNaN_uint32.S n x) fun (_ : Bool) => True := by
  refine (?_ : AnsG N (g_cmp_isNaN_uint32 x) _)
  unfold g_cmp_isNaN_uint32
  (repeat' first | exact AnsG.done rfl trivial | refine AnsG.skip ?_ | refine AnsG.inl ?_ | refine AnsG.br (fun _ => ?_) (fun _ => ?_))
theorem nan2_ans (N : Nat) (x : Int) : Ans N (fun n => c_slices_isNaN_uint32.S n x) fun (_ : Bool) => True := by
  refine (?_ : AnsG N (g_slices_isNaN_uint32 x) _)
  unfold g_slices_isNaN_uint32
  (repeat' first | exact AnsG.done rfl trivial | refine AnsG.skip ?_ | refine AnsG.inl ?_ | refine AnsG.br (fun _ => ?_) (fun _ => ?_))
theorem less_ans (N : Nat) (x y : Int) : Ans N (fun n => c_cmp_Less_uint32.S n (x, y)) fun (_ : Bool) => True := by
  refine (?_ : AnsG N (g_cmp_Less_uint32 x y) _)
  unfold g_cmp_Less_uint32
  refine .skip (.call _ (nan_ans N x) fun b _ => .skip (.br (fun _ => .skip (.call _ (nan_ans N y) fun c _ => ?_)) fun _ => ?_)) <;> (repeat' first | exact AnsG.done rfl trivial | refine AnsG.skip ?_ | refine AnsG.inl ?_ | refine AnsG.br (fun _ => ?_) (fun _ => ?_))
theorem mid_eq (i j : Int) (h0 : 0 ≤ i) (h1 : 0 ≤ j) (h2 : i + j < 9223372036854775808) : Go.IntKind.wrap .i64 (Int.fdiv (Go.IntKind.wrap .u64 (Go.IntKind.wrap .i64 (i + j))) ((2 : Int) ^ (@Min.min Nat instMinNat (Int.toNat (1 : Int)) (Go.IntKind.bits .u64)))) = (i + j) / 2 := by
  have e1 : Go.IntKind.wrap .i64 (i + j) = i + j := wrap_i64 (by omega) (by omega)
  have e2 : Go.IntKind.wrap .u64 (i + j) = i + j := by
    simp only [Go.IntKind.wrap, Go.IntKind.bits, Go.IntKind.signed]
    simp
    omega
  have e3 : ((2 : Int) ^ (@Min.min Nat instMinNat (Int.toNat (1 : Int)) (Go.IntKind.bits .u64))) = 2 := by decide
  rw [e1, e2, e3, Int.fdiv_eq_ediv_of_nonneg _ (by omega)]
  exact wrap_i64 (by omega) (by omega)
theorem bsearch_ans (N : Nat) (l : List Int) (x : Int) (hl : l.length < 1000000) (hN : l.length < N) : Ans N (fun n => c_slices_BinarySearch_uint32_uint32.S n (l, x)) fun (_ : Prod Int Bool) => True := by
  refine (?_ : AnsG N (g_slices_BinarySearch_uint32_uint32 l x) _)
  unfold g_slices_BinarySearch_uint32_uint32
  refine .skip (.op () rfl (.skip (.loop (fun (a : Int × Int) => 0 ≤ a.1 ∧ a.1 ≤ a.2 ∧ a.2 ≤ (l.length : Int)) (fun a => (a.2 - a.1).toNat) (fun (t : Int) => 0 ≤ t ∧ t ≤ (l.length : Int)) rfl ⟨by simp, by simp, by simp⟩ ?_ ?_ ?_)))
  · simp; omega
  · rintro ⟨i, j⟩ ⟨h0, h1, h2⟩
    simp only at h0 h1 h2 ⊢
    refine .skip (.br (fun h => .skip ?_) fun h => .skip (.done rfl ?_))
    · simp only [decide_eq_true_eq] at h
      rw [mid_eq i j h0 (by omega) (by omega)]
      obtain ⟨y, hy⟩ := idx_some l (eI .u32) 1 ((i + j) / 2) (by omega) (by omega)
      refine .op y hy (.skip (.call _ (less_ans N y x) fun b _ => .br (fun _ => .skip (.done rfl ?_)) fun _ => .skip (.done rfl ?_)))
      · rw [wrap_i64 (by omega) (by omega)]
        refine ⟨⟨?_, ?_, ?_⟩, ?_⟩ <;> simp only <;> omega
      · refine ⟨⟨?_, ?_, ?_⟩, ?_⟩ <;> simp only <;> omega
    · exact ⟨h0, by omega⟩
  · rintro t ⟨h0, h1⟩
    refine .skip (.br (fun h => .skip ?_) fun h => ?_)
    · simp only [decide_eq_true_eq] at h
      obtain ⟨y, hy⟩ := idx_some l (eI .u32) 1 t h0 h
      refine .op y hy (.skip (.br (fun _ => ?_) fun _ => .skip (.op y hy (.skip (.call _ (nan2_ans N y) fun b _ => .skip (.br (fun _ => .skip (.call _ (nan2_ans N x) fun c _ => ?_)) fun _ => ?_)))))) <;> (repeat' first | exact AnsG.done rfl trivial | refine AnsG.skip ?_ | refine AnsG.inl ?_ | refine AnsG.br (fun _ => ?_) (fun _ => ?_))
    · (repeat' first | exact AnsG.done rfl trivial | refine AnsG.skip ?_ | refine AnsG.inl ?_ | refine AnsG.br (fun _ => ?_) (fun _ => ?_))
theorem has_ans (N : Nat) (l : List Int) (x : Int) (hl : l.length < 1000000) (hN : l.length < N) : Ans N (fun n => c_policy_has.S n (l, x)) fun (_ : Bool) => True := by
  refine (?_ : AnsG N (g_policy_has l x) _)
  unfold g_policy_has
  exact .skip (.call _ (bsearch_ans N l x hl hN) fun r _ => .skip (.done rfl trivial))
end Go.L
/- The imports of a list for a route: the places of the imports that are selected, in strictly ascending order. No conditions. -/
namespace Go.L
open Go.AM
set_option maxRecDepth 100000
set_option linter.unusedVariables false

def keysI (m : List (Int × S158)) : List Int := m.map (·.1)
theorem eqI (a b : Int) : eqwim24 a b = decide (a = b) := by simp [eqwim24, BEq.beq]

theorem findI_none : ∀ (m : List (Int × S158)) (k : Int) (j : Nat), findM eqwim24 k m j = none → k ∉ keysI m
  | [], _, _, _ => by simp [keysI]
  | p :: ps, k, j, h => by
    simp only [findM, eqI, decide_eq_true_eq] at h
    split at h
    · cases h
    · rename_i hne
      have := findI_none ps k (j + 1) h
      simp only [keysI, List.map_cons, List.mem_cons, not_or] at this ⊢
      exact ⟨hne, this⟩
theorem findI_some : ∀ (m : List (Int × S158)) (k : Int) (j i : Nat) (v : S158), findM eqwim24 k m j = some (i, v) → j ≤ i ∧ (keysI m)[i - j]? = some k
  | [], _, _, _, _, h => by simp [findM] at h
  | p :: ps, k, j, i, v, h => by
    simp only [findM, eqI, decide_eq_true_eq] at h
    split at h
    · rename_i he
      simp only [Option.some.injEq, Prod.mk.injEq] at h
      obtain ⟨rfl, _⟩ := h
      exact ⟨Nat.le_refl _, by simp [keysI, he]⟩
    · obtain ⟨h1, h2⟩ := findI_some ps k (j + 1) i v h
      refine ⟨by omega, ?_⟩
      have : i - j = (i - (j + 1)) + 1 := by omega
      rw [this]
      simpa [keysI] using h2

theorem putI (m : List (Int × S158)) (k : Int) (v : S158) (hn : (keysI m).Nodup) : (keysI (putM eqwim24 k v m)).Nodup ∧ (∀ x, x ∈ keysI (putM eqwim24 k v m) ↔ x ∈ keysI m ∨ x = k) ∧ (putM eqwim24 k v m).length ≤ m.length + 1 := by
  unfold putM
  split
  · rename_i i w hf
    obtain ⟨_, h2⟩ := findI_some m k 0 i w hf
    simp only [Nat.sub_zero] at h2
    have he : keysI (m.set i (k, v)) = keysI m := by
      simp only [keysI, List.map_set] at h2 ⊢
      obtain ⟨hl, hg⟩ := List.getElem?_eq_some_iff.1 h2
      rw [← hg]
      exact List.set_getElem_self hl
    rw [he]
    refine ⟨hn, fun x => ⟨.inl, fun h => ?_⟩, by simp⟩
    rcases h with h | rfl
    · exact h
    · exact List.mem_of_getElem? h2
  · rename_i hf
    have h2 := findI_none m k 0 hf
    have he : keysI (m ++ [(k, v)]) = keysI m ++ [k] := by simp [keysI]
    rw [he]
    refine ⟨?_, fun x => by simp, by simp⟩
    rw [List.nodup_append]
    exact ⟨hn, by simp, fun x hx y hy => by simp only [List.mem_singleton] at hy; subst hy; rintro rfl; exact h2 hx⟩

/-- Is an import selected? -/
noncomputable def hasB (n : Nat) (tg : List Int) (t : Int) : Bool := ((c_policy_has.S n (tg, t) : Option Bool)).getD false
noncomputable def covB (n : Nat) (p q : Prefix) : Bool := ((c_addr_Covers.S n (p, q) : Option Bool)).getD false
noncomputable def selI (n : Nat) (tg : List Int) (pf : Prefix × Bool) (x : Import) : Bool := hasB n tg x.Target && (!x.HasPrefix || (pf.2 && covB n x.Prefix pf.1))

theorem has_b {n : Nat} {tg : List Int} (t : Int) (h : tg.length < 1000000) (hn : tg.length < n) : At (c_policy_has.S n (tg, t)) (fun b => b = hasB n tg t) := by
  obtain ⟨b, _, hb⟩ := has_ans (tg.length + 1) tg t h (Nat.lt_succ_self _)
  have h2 : (c_policy_has.S n (tg, t) : Option Bool) = some b := hb n (by omega)
  exact ⟨b, h2, (congrArg (fun (o : Option Bool) => o.getD false) h2).symm⟩
theorem cov_b {n : Nat} (p q : Prefix) : At (c_addr_Covers.S n (p, q)) (fun b => b = covB n p q) := by
  obtain ⟨b, _, hb⟩ := covers_ans 0 p q
  have h2 : (c_addr_Covers.S n (p, q) : Option Bool) = some b := hb n (Nat.zero_le _)
  exact ⟨b, h2, (congrArg (fun (o : Option Bool) => o.getD false) h2).symm⟩

/-- What has been collected after i imports. -/
def InvI (n : Nat) (tg : List Int) (pf : Prefix × Bool) (l : List Import) (a : Int × List (Int × S158)) : Prop :=
  ∃ i : Nat, a.1 = (i : Int) ∧ i ≤ l.length ∧ (keysI a.2).Nodup ∧ a.2.length ≤ i ∧ ∀ k, k ∈ keysI a.2 ↔ ∃ x ∈ l.take i, selI n tg pf x = true ∧ x.Place = k

theorem InvI.step {n : Nat} {tg : List Int} {pf : Prefix × Bool} {l : List Import} {a : Int × List (Int × S158)} (h : InvI n tg pf l a) (hl : l.length < 100000) {x : Import} (hlt : a.1 < (l.length : Int)) (hx : l[a.1.toNat]? = some x) (m' : List (Int × S158))
    (hm : (selI n tg pf x = true ∧ m' = putM eqwim24 x.Place Go.L.S158.mk a.2) ∨ (selI n tg pf x = false ∧ m' = a.2)) :
    InvI n tg pf l (Go.IntKind.wrap .i64 (a.1 + 1), m') ∧ l.length - (Go.IntKind.wrap .i64 (a.1 + 1)).toNat < l.length - a.1.toNat := by
  obtain ⟨i, hi, hil, hnd, hlen, hk⟩ := h
  rw [hi] at hx hlt ⊢
  simp only [Int.toNat_natCast] at hx
  have hw : Go.IntKind.wrap .i64 ((i : Int) + 1) = ((i + 1 : Nat) : Int) := by rw [wrap_i64 (by omega) (by omega)]; rfl
  have hi' : i < l.length := by omega
  rw [hw]
  have ht : l.take (i + 1) = l.take i ++ [x] := by
    rw [List.take_add_one, hx]; rfl
  refine ⟨⟨i + 1, rfl, by omega, ?_⟩, by simp only [Int.toNat_natCast]; omega⟩
  rcases hm with ⟨hs, rfl⟩ | ⟨hs, rfl⟩
  · obtain ⟨p1, p2, p3⟩ := putI a.2 x.Place Go.L.S158.mk hnd
    refine ⟨p1, Nat.le_trans p3 (Nat.succ_le_succ hlen), fun k => ?_⟩
    show k ∈ keysI (putM _ _ _ _) ↔ _
    rw [p2, hk, ht]
    constructor
    · rintro (⟨y, hy, h1, h2⟩ | rfl)
      · exact ⟨y, List.mem_append_left _ hy, h1, h2⟩
      · exact ⟨x, by simp, hs, rfl⟩
    · rintro ⟨y, hy, h1, h2⟩
      rcases List.mem_append.1 hy with hy | hy
      · exact .inl ⟨y, hy, h1, h2⟩
      · simp only [List.mem_singleton] at hy; subst hy; exact .inr h2.symm
  · refine ⟨hnd, Nat.le_succ_of_le hlen, fun k => ?_⟩
    rw [hk, ht]
    constructor
    · rintro ⟨y, hy, h1, h2⟩
      exact ⟨y, List.mem_append_left _ hy, h1, h2⟩
    · rintro ⟨y, hy, h1, h2⟩
      rcases List.mem_append.1 hy with hy | hy
      · exact ⟨y, hy, h1, h2⟩
      · simp only [List.mem_singleton] at hy; subst hy; rw [hs] at h1; cases h1

/-- The imports of a list, as they are told. -/
def ImpsOf (n : Nat) (tg : List Int) (pf : Prefix × Bool) (l : List Import) (out : List Int) : Prop :=
  (out.Pairwise (· < ·) ∧ out.length ≤ l.length) ∧ ∀ k, k ∈ out ↔ ∃ x ∈ l, selI n tg pf x = true ∧ x.Place = k

theorem imports_at (n : Nat) (r : Route) (tg : List Int) (pf : Prefix × Bool) (ht : c_comm_Targets.S n r.A.Comms = some tg) (hp : c_policy_Prefix.S n r = some pf) (htl : tg.length < 1000000) (htn : tg.length < n) (l : List Import) (hl : l.length < 100000) (hn : l.length < n) :
    At (c_policy_Imports.S n (l, r)) (ImpsOf n tg pf l) := by
  refine (?_ : AtG n (g_policy_Imports l r) _)
  unfold g_policy_Imports
  refine .skip (.call (fun q => q = tg) ⟨tg, ht, rfl⟩ fun q hq => ?_)
  subst hq
  refine .skip (.call (fun q => q = pf) ⟨pf, hp, rfl⟩ fun q' hq => ?_)
  subst hq
  refine .skip (.op () rfl (.skip (.loop (InvI n q q' l) (fun a => l.length - a.1.toNat) (fun t => (keysI t).Nodup ∧ t.length ≤ l.length ∧ ∀ k, k ∈ keysI t ↔ ∃ x ∈ l, selI n q q' x = true ∧ x.Place = k) rfl
    ⟨0, rfl, Nat.zero_le _, List.nodup_nil, Nat.le_refl _, by simp [keysI]⟩ (by show l.length - 0 < n; omega) (fun a ha => ?_) (fun t hq => ?_))))
  · refine .skip (.br (fun h => .skip ?_) (fun h => .skip (.done rfl ?_)))
    · simp only [decide_eq_true_eq] at h
      have h0 : 0 ≤ a.1 := by obtain ⟨i, hi, _⟩ := ha; omega
      have hlt : a.1.toNat < l.length := by omega
      have hx : l[a.1.toNat]? = some (l[a.1.toNat]) := List.getElem?_eq_getElem hlt
      refine .op (l[a.1.toNat]) ?_ (.skip (.call _ (has_b _ htl htn) fun b hb => .skip (.br (fun hb1 => .skip (.br (fun hpx => .skip (.op () rfl (.skip (.done rfl ?_)))) fun hpx => .skip (.br (fun hp2 => .skip (.call _ (cov_b _ _) fun c hc => .skip (.br (fun hc1 => .skip (.op () rfl (.skip (.done rfl ?_)))) fun hc1 => .skip (.done rfl ?_)))) fun hp2 => .skip (.done rfl ?_)))) fun hb1 => .skip (.done rfl ?_))))
      · show at? l a.1 = _
        simp [at?, h0, hlt]
      · refine ha.step hl h hx _ (.inl ⟨?_, rfl⟩)
        subst hb
        simp only [selI, hb1, hpx, Bool.true_and, Bool.true_or]
      · refine ha.step hl h hx _ (.inl ⟨?_, rfl⟩)
        subst hb; subst hc
        simp only [selI, hb1, hp2, hc1, Bool.true_and, Bool.or_true]
      · refine ha.step hl h hx _ (.inr ⟨?_, rfl⟩)
        subst hb; subst hc
        simp only [selI, hb1, hp2, hc1, hpx, Bool.and_false, Bool.or_false]
      · refine ha.step hl h hx _ (.inr ⟨?_, rfl⟩)
        subst hb
        simp only [selI, hb1, hp2, hpx, Bool.true_and, Bool.false_and, Bool.or_false]
      · refine ha.step hl h hx _ (.inr ⟨?_, rfl⟩)
        subst hb
        simp only [selI, hb1, Bool.false_and]
    · simp only [decide_eq_false_iff_not] at h
      obtain ⟨i, hi, hil, hnd, hlen, hk⟩ := ha
      have : i = l.length := by omega
      subst this
      rw [List.take_length] at hk
      exact ⟨hnd, hlen, hk⟩
  · obtain ⟨hnd, hlen, hk⟩ := hq
    have hms : ((keysI t).mergeSort Sn.le).length = t.length := by rw [List.length_mergeSort]; exact List.length_map ..
    refine .skip (.inl (.skip (.tidy rfl (.inl (.inl (.callR (fun (y : Nat × List Int) => y = (t.length, (keysI t).mergeSort Sn.le)) ⟨(t.length, (keysI t).mergeSort Sn.le), if_pos (by show t.length < 1000000; omega), rfl⟩ fun y hy => .skip (.done ?_ ?_)))))))
    · rw [show y = (t.length, (keysI t).mergeSort Sn.le) from hy]
      simp only [tsOk, fzRow, Bool.and_true]
      exact decide_eq_true (by rw [List.length_map]; exact hms.symm)
    · rw [show y = (t.length, (keysI t).mergeSort Sn.le) from hy]
      have hperm := List.mergeSort_perm (keysI t) Sn.le
      refine ⟨⟨?_, by show ((keysI t).mergeSort Sn.le).length ≤ _; rw [hms]; exact hlen⟩, fun k => ?_⟩
      · have h1 := List.pairwise_mergeSort (le := Sn.le) (by intro a b c; simp only [Sn.le, decide_eq_true_eq]; omega) (by intro a b; simp only [Sn.le, Bool.or_eq_true, decide_eq_true_eq]; omega) (keysI t)
        have h2 : ((keysI t).mergeSort Sn.le).Nodup := hperm.nodup_iff.2 hnd
        exact (h1.and h2).imp fun {a b} h => by have := h.1; simp only [Sn.le, decide_eq_true_eq] at this; have := h.2; omega
      · rw [hperm.mem_iff]; exact hk k
end Go.L
/- PolicyNames: the chapter's examples, communities and empty lists are as they are told. No conditions. -/
namespace Go.L
open Go.AM
set_option maxRecDepth 100000
set_option linter.unusedVariables false
set_option linter.unusedSimpArgs false
/-- Two ascending lists with the same members are alike. -/
theorem ascN_ext : ∀ {a b : List Int}, a.Pairwise (fun (a b : Int) => a < b) → b.Pairwise (fun (a b : Int) => a < b) → (∀ x, x ∈ a ↔ x ∈ b) → a = b
  | [], [], _, _, _ => rfl
  | [], y :: b, _, _, h => by have := (h y).2 (by simp); cases this
  | x :: a, [], _, _, h => by have := (h x).1 (by simp); cases this
  | x :: a, y :: b, ha, hb, h => by
    have ha1 := (List.pairwise_cons.1 ha).1
    have ha2 := (List.pairwise_cons.1 ha).2
    have hb1 := (List.pairwise_cons.1 hb).1
    have hb2 := (List.pairwise_cons.1 hb).2
    have e : x = y := by
      have h1 := (h x).1 (by simp)
      have h2 := (h y).2 (by simp)
      rcases List.mem_cons.1 h1 with h1 | h1
      · exact h1
      · rcases List.mem_cons.1 h2 with h2 | h2
        · exact h2.symm
        · have := hb1 x h1; have := ha1 y h2; omega
    subst e
    rw [ascN_ext ha2 hb2 fun z => ?_]
    have := h z
    simp only [List.mem_cons] at this
    constructor
    · intro hz
      rcases this.1 (.inr hz) with q | q
      · have := ha1 z hz; omega
      · exact q
    · intro hz
      rcases this.2 (.inr hz) with q | q
      · have := hb1 z hz; omega
      · exact q

theorem AtN.brT {n : Nat} {ρ : Type} {p : ρ → Prop} {d : Tmp} {c : Bool} {t f : G prog ρ} (hc : c = true) (ht : AtG n t p) : AtG n (.br d c t f) p := .br (fun _ => ht) (fun h => by rw [hc] at h; cases h)
theorem AtN.brF {n : Nat} {ρ : Type} {p : ρ → Prop} {d : Tmp} {c : Bool} {t f : G prog ρ} (hc : c = false) (ht : AtG n f p) : AtG n (.br d c t f) p := .br (fun h => by rw [hc] at h; cases h) (fun _ => ht)
theorem imp_val {l : List Import} {r : Route} (tg : List Int) (pf : Prefix × Bool) (ps ex : List Int) (ht : c_comm_Targets.S 1000 r.A.Comms = some tg) (hp : c_policy_Prefix.S 1000 r = some pf) (htl : tg.length < 900) (hl : l.length < 900)
    (hf : (l.filter (selI 1000 tg pf)).map (·.Place) = ps) (ha : ex.Pairwise (fun a b => a < b)) (hm : ∀ k, k ∈ ex ↔ k ∈ ps) : At (c_policy_Imports.S 1000 (l, r)) (fun (o : List Int) => o = ex) := by
  refine (imports_at 1000 r tg pf ht hp (by omega) (by omega) l (by omega) (by omega)).mono fun o ho => ascN_ext ho.1.1 ha fun k => ?_
  rw [ho.2 k, hm k, ← hf]
  simp only [List.mem_map, List.mem_filter, and_assoc]
theorem imp0 : At (c_policy_Imports.S 1000 ([(Go.L.Import.mk (7 : Int) false (Go.L.Prefix.mk (0 : Int) (0 : Int)) (3 : Int)), (Go.L.Import.mk (7 : Int) true (Go.L.Prefix.mk (167772160 : Int) (8 : Int)) (1 : Int)), (Go.L.Import.mk (8 : Int) false (Go.L.Prefix.mk (0 : Int) (0 : Int)) (2 : Int)), (Go.L.Import.mk (7 : Int) false (Go.L.Prefix.mk (0 : Int) (0 : Int)) (3 : Int))], (Go.L.Route.mk (Go.L.NLRI.mk (2 : Int) (0 : Int) (@Go.AM.V10.mk Int (0 : Int) (0 : Int) (0 : Int) (0 : Int) (0 : Int) (0 : Int) (0 : Int) (0 : Int) (0 : Int) (0 : Int)) (0 : Int) (1 : Int) (0 : Int) false (Go.L.Prefix.mk (0 : Int) (0 : Int)) (0 : Int) (0 : Int) (0 : Int)) (Go.L.Attrs.mk (0 : Int) [] (0 : Int) false (0 : Int) false (0 : Int) false (0 : Int) [] [(@Go.AM.V8.mk Int (0 : Int) (2 : Int) (253 : Int) (232 : Int) (0 : Int) (0 : Int) (0 : Int) (7 : Int))] (Go.L.Tunnel.mk (0 : Int) (0 : Int) (0 : Int) (0 : Int))) (3 : Int) false))) (fun (o : List Int) => o = [3]) :=
  imp_val [7] (⟨0, 0⟩, false) [3, 3] [3] (by kernel_rfl) (by kernel_rfl) (by decide) (by decide) (by kernel_rfl) (by simp) (by simp)
theorem imp1 : At (c_policy_Imports.S 1000 ([(Go.L.Import.mk (7 : Int) false (Go.L.Prefix.mk (0 : Int) (0 : Int)) (3 : Int)), (Go.L.Import.mk (7 : Int) true (Go.L.Prefix.mk (167772160 : Int) (8 : Int)) (1 : Int)), (Go.L.Import.mk (8 : Int) false (Go.L.Prefix.mk (0 : Int) (0 : Int)) (2 : Int)), (Go.L.Import.mk (7 : Int) false (Go.L.Prefix.mk (0 : Int) (0 : Int)) (3 : Int))], (Go.L.Route.mk (Go.L.NLRI.mk (2 : Int) (0 : Int) (@Go.AM.V10.mk Int (0 : Int) (0 : Int) (0 : Int) (0 : Int) (0 : Int) (0 : Int) (0 : Int) (0 : Int) (0 : Int) (0 : Int)) (0 : Int) (1 : Int) (167772161 : Int) true (Go.L.Prefix.mk (0 : Int) (0 : Int)) (0 : Int) (0 : Int) (0 : Int)) (Go.L.Attrs.mk (0 : Int) [] (0 : Int) false (0 : Int) false (0 : Int) false (0 : Int) [] [(@Go.AM.V8.mk Int (0 : Int) (2 : Int) (253 : Int) (232 : Int) (0 : Int) (0 : Int) (0 : Int) (7 : Int))] (Go.L.Tunnel.mk (0 : Int) (0 : Int) (0 : Int) (0 : Int))) (3 : Int) false))) (fun (o : List Int) => o = [1, 3]) :=
  imp_val [7] (⟨167772161, 32⟩, true) [3, 1, 3] [1, 3] (by kernel_rfl) (by kernel_rfl) (by decide) (by decide) (by kernel_rfl) (by simp) (by simp)
theorem imp2 : At (c_policy_Imports.S 1000 ([(Go.L.Import.mk (7 : Int) false (Go.L.Prefix.mk (0 : Int) (0 : Int)) (3 : Int)), (Go.L.Import.mk (7 : Int) true (Go.L.Prefix.mk (167772160 : Int) (8 : Int)) (1 : Int)), (Go.L.Import.mk (8 : Int) false (Go.L.Prefix.mk (0 : Int) (0 : Int)) (2 : Int)), (Go.L.Import.mk (7 : Int) false (Go.L.Prefix.mk (0 : Int) (0 : Int)) (3 : Int))], (Go.L.Route.mk (Go.L.NLRI.mk (2 : Int) (0 : Int) (@Go.AM.V10.mk Int (0 : Int) (0 : Int) (0 : Int) (0 : Int) (0 : Int) (0 : Int) (0 : Int) (0 : Int) (0 : Int) (0 : Int)) (0 : Int) (1 : Int) (167772160 : Int) true (Go.L.Prefix.mk (0 : Int) (0 : Int)) (0 : Int) (0 : Int) (0 : Int)) (Go.L.Attrs.mk (0 : Int) [] (0 : Int) false (0 : Int) false (0 : Int) false (0 : Int) [] [(@Go.AM.V8.mk Int (0 : Int) (2 : Int) (253 : Int) (232 : Int) (0 : Int) (0 : Int) (0 : Int) (9 : Int))] (Go.L.Tunnel.mk (0 : Int) (0 : Int) (0 : Int) (0 : Int))) (3 : Int) false))) (fun (o : List Int) => o = []) :=
  imp_val [9] (⟨167772160, 32⟩, true) [] [] (by kernel_rfl) (by kernel_rfl) (by decide) (by decide) (by kernel_rfl) (by simp) (by simp)
theorem sort0 : c_comm_Sort.S 1000 [(@Go.AM.V8.mk Int (0 : Int) (2 : Int) (253 : Int) (232 : Int) (0 : Int) (0 : Int) (0 : Int) (9 : Int)), (@Go.AM.V8.mk Int (0 : Int) (2 : Int) (253 : Int) (232 : Int) (0 : Int) (0 : Int) (0 : Int) (9 : Int))] = some [⟨0, 2, 253, 232, 0, 0, 0, 9⟩] := by kernel_rfl
theorem lives0 : c_law19_lives.S 1000 () = some true := by kernel_rfl
theorem names_at : AtG 1000 g_law19_PolicyNames (fun (b : Bool) => b = true) := by
  unfold g_law19_PolicyNames
  refine AtG.skip (AtG.call (fun (b : Bool) => b = true) ⟨_, lives0, rfl⟩ fun b hb => ?_)
  rw [show b = true from hb]
  repeat (first
    | refine AtG.skip ?_ | refine AtG.inl ?_ | refine AtG.unroll ?_ | refine AtG.tidy rfl ?_
    | refine AtG.call (fun _ => True) ⟨(), rfl, trivial⟩ (fun _ _ => ?_)
    | refine AtG.op () rfl ?_ | refine AtN.brT rfl ?_ | refine AtN.brF rfl ?_)
  refine AtG.call (fun (r : List (V8 Int)) => r = [⟨0, 2, 253, 232, 0, 0, 0, 9⟩]) ⟨_, sort0, rfl⟩ fun r3 h3 => ?_
  rw [show r3 = [⟨0, 2, 253, 232, 0, 0, 0, 9⟩] from h3]
  repeat (first
    | refine AtG.skip ?_ | refine AtG.inl ?_ | refine AtG.unroll ?_ | refine AtG.tidy rfl ?_
    | refine AtG.call (fun _ => True) ⟨(), rfl, trivial⟩ (fun _ _ => ?_)
    | refine AtG.op () rfl ?_ | refine AtN.brT rfl ?_ | refine AtN.brF rfl ?_)
  refine AtG.call _ imp0 fun r4 h4 => ?_
  rw [show r4 = [3] from h4]
  repeat (first
    | refine AtG.skip ?_ | refine AtG.inl ?_ | refine AtG.unroll ?_ | refine AtG.tidy rfl ?_
    | refine AtG.call (fun _ => True) ⟨(), rfl, trivial⟩ (fun _ _ => ?_)
    | refine AtG.op () rfl ?_ | refine AtN.brT rfl ?_ | refine AtN.brF rfl ?_)
  repeat (first
    | refine AtG.skip ?_ | refine AtG.inl ?_ | refine AtG.unroll ?_ | refine AtG.tidy rfl ?_
    | refine AtG.call (fun _ => True) ⟨(), rfl, trivial⟩ (fun _ _ => ?_)
    | refine AtG.op () rfl ?_ | refine AtN.brT rfl ?_ | refine AtN.brF rfl ?_)
  refine AtG.call _ imp1 fun r6 h6 => ?_
  rw [show r6 = [1, 3] from h6]
  repeat (first
    | refine AtG.skip ?_ | refine AtG.inl ?_ | refine AtG.unroll ?_ | refine AtG.tidy rfl ?_
    | refine AtG.call (fun _ => True) ⟨(), rfl, trivial⟩ (fun _ _ => ?_)
    | refine AtG.op () rfl ?_ | refine AtN.brT rfl ?_ | refine AtN.brF rfl ?_)
  repeat (first
    | refine AtG.skip ?_ | refine AtG.inl ?_ | refine AtG.unroll ?_ | refine AtG.tidy rfl ?_
    | refine AtG.call (fun _ => True) ⟨(), rfl, trivial⟩ (fun _ _ => ?_)
    | refine AtG.op () rfl ?_ | refine AtN.brT rfl ?_ | refine AtN.brF rfl ?_)
  refine AtG.call _ imp2 fun r8 h8 => ?_
  rw [show r8 = [] from h8]
  repeat (first
    | refine AtG.skip ?_ | refine AtG.inl ?_ | refine AtG.unroll ?_ | refine AtG.tidy rfl ?_
    | refine AtG.call (fun _ => True) ⟨(), rfl, trivial⟩ (fun _ _ => ?_)
    | refine AtG.op () rfl ?_ | refine AtN.brT rfl ?_ | refine AtN.brF rfl ?_)
  repeat (first
    | refine AtG.skip ?_ | refine AtG.inl ?_ | refine AtG.unroll ?_ | refine AtG.tidy rfl ?_
    | refine AtG.call (fun _ => True) ⟨(), rfl, trivial⟩ (fun _ _ => ?_)
    | refine AtG.op () rfl ?_ | refine AtN.brT rfl ?_ | refine AtN.brF rfl ?_)
  all_goals exact AtG.done rfl rfl
end Go.L
