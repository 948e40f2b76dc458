/- PolicyImports: the imports of two lists together are those of the one and those of the other, ascending, none twice; without targets there are none; the card, tied to the program's text. No conditions. -/
import Derived.Test.YtpgpmlaafigpaaaGreatDoorAmPl
import Derived.Test.YtpgpmlaafigpaaaGreatDoorWi
import Derived.Test.YtpgpmlaafigpaaaGreatDoorWt
import Derived.Test.YtpgpmlaafigpaaaGreatDoorPs
import Derived.Test.YtpgpmlaafigpaaaGreatDoorRd
import Derived.Test.YtpgpmlaafigpaaaGreatDoorPq
import Derived.Test.YtpgpmlaafigpaaaGreatDoorAmDr
import Derived.Test.YtpgpmlaafigpaaaGreatDoorRows
import Derived.Test.YtpgpmlaafigpaaaGreatDoorCards
import Derived.Test.YtpgpmlaafigpaaaGreatDoorTie
import Derived.Deep.DeepHandedRow
import Derived.Lib.LaidTab
/- Functions that answer, with an answer that does not depend on the fuel. No conditions. -/
namespace Go.AM
set_option linter.unusedVariables false

/-- With N or more to burn it answers, and always the same, and the answer is so. -/
def Ans {α : Type} (N : Nat) (f : Nat → Option α) (p : α → Prop) : Prop := ∃ r, p r ∧ ∀ n, N ≤ n → f n = Option.some r

theorem Ans.of {α : Type} {N : Nat} {p : α → Prop} (r : α) (h : p r) : Ans N (fun _ => Option.some r) p := ⟨r, h, fun _ _ => rfl⟩
theorem Ans.mono {α : Type} {N : Nat} {f : Nat → Option α} {p q : α → Prop} (h : Ans N f p) (hp : ∀ r, p r → q r) : Ans N f q := by
  obtain ⟨r, h1, h2⟩ := h
  exact ⟨r, hp r h1, h2⟩
theorem Ans.bind {α β : Type} {N : Nat} {f : Nat → Option α} {g : Nat → α → Option β} {p : α → Prop} {q : β → Prop} (h : Ans N f p) (hg : ∀ a, p a → Ans N (fun n => g n a) q) : Ans N (fun n => (f n).bind (g n)) q := by
  obtain ⟨a, h1, h2⟩ := h
  obtain ⟨b, h3, h4⟩ := hg a h1
  exact ⟨b, h3, fun n hn => by show (f n).bind (g n) = _; rw [h2 n hn]; exact h4 n hn⟩
theorem Ans.ite {α : Type} {N : Nat} {c : Prop} [Decidable c] {f g : Nat → Option α} {p : α → Prop} (hf : c → Ans N f p) (hg : ¬ c → Ans N g p) : Ans N (fun n => if c then f n else g n) p := by
  by_cases hc : c
  · simp only [hc, if_true]; exact hf hc
  · simp only [hc, if_false]; exact hg hc
theorem Ans.up {α : Type} {N M : Nat} {f : Nat → Option α} {p : α → Prop} (h : Ans N f p) (hm : N ≤ M) : Ans M f p := by
  obtain ⟨r, h1, h2⟩ := h
  exact ⟨r, h1, fun n hn => h2 n (Nat.le_trans hm hn)⟩

/-- How a round may end. -/
def RoundOk {σ τ : Type} (I : σ → Prop) (m : σ → Nat) (p : τ → Prop) (a : σ) : σ ⊕ τ → Prop
  | .inl b => I b ∧ m b < m a
  | .inr t => p t

/-- A loop whose rounds answer, with a measure. -/
theorem Ans.loopK {σ τ : Type} {N : Nat} {body : Nat → σ → Option (σ ⊕ τ)} (I : σ → Prop) (m : σ → Nat) (p : τ → Prop)
    (h : ∀ a, I a → Ans N (fun n => body n a) (RoundOk I m p a)) :
    ∀ (M : Nat) (a : σ), I a → m a < M → ∃ r, p r ∧ ∀ n, N ≤ n → ∀ k, M ≤ k → iterO (body n) k a = Option.some r
  | 0, a, _, hm => absurd hm (Nat.not_lt_zero _)
  | M + 1, a, hI, hm => by
    obtain ⟨r, h1, h2⟩ := h a hI
    cases r with
    | inl b =>
      obtain ⟨t, h3, h4⟩ := Ans.loopK I m p h M b h1.1 (by have := h1.2; omega)
      refine ⟨t, h3, fun n hn k hk => ?_⟩
      cases k with
      | zero => omega
      | succ k => simp only [iterO, h2 n hn]; exact h4 n hn k (by omega)
    | inr t =>
      refine ⟨t, h1, fun n hn k hk => ?_⟩
      cases k with
      | zero => omega
      | succ k => simp only [iterO, h2 n hn]

theorem Ans.loop {σ τ : Type} {N : Nat} {body : Nat → σ → Option (σ ⊕ τ)} {a : σ} (I : σ → Prop) (m : σ → Nat) (p : τ → Prop) (hI : I a) (hm : m a < N)
    (h : ∀ a, I a → Ans N (fun n => body n a) (RoundOk I m p a)) : Ans N (fun n => iterO (body n) n a) p := by
  obtain ⟨r, h1, h2⟩ := Ans.loopK I m p h N a hI hm
  exact ⟨r, h1, fun n hn => h2 n hn n hn⟩

/-! ### Guides that answer -/
section
variable {P : Program} [Globs] {ρ : Type} {N : Nat} {p : ρ → Prop}
def AnsG (N : Nat) (g : G P ρ) (p : ρ → Prop) : Prop := Ans N (fun n => g.run n) p
theorem AnsG.skip {m : Nat} {g : G P ρ} (h : AnsG N g p) : AnsG N (.skip m g) p := h
theorem AnsG.br {d : Tmp} {c : Bool} {t f : G P ρ} (ht : c = true → AnsG N t p) (hf : c = false → AnsG N f p) : AnsG N (.br d c t f) p := by
  show Ans N (fun n => if c then t.run n else f.run n) p
  exact Ans.ite ht (fun h => hf (by simpa using h))
theorem AnsG.call {c : Ctr P} {x : c.X} {k : c.sh.El → G P ρ} (q : c.sh.El → Prop) (h : Ans N (fun n => c.S n x) q) (hk : ∀ r, q r → AnsG N (k r) p) : AnsG N (.call c x k) p :=
  Ans.bind (f := fun n => c.S n x) (g := fun n r => (k r).run n) h hk
theorem AnsG.op {X : Type} {t : OpT X} {k : X → G P ρ} (x : X) (h : t.run = some x) (hk : AnsG N (k x) p) : AnsG N (.op t k) p := by
  obtain ⟨r, h1, h2⟩ := hk
  exact ⟨r, h1, fun n hn => by show t.run.bind (fun x => (k x).run n) = _; rw [h]; exact h2 n hn⟩
theorem AnsG.done {ts : List TS} {r : ρ} (ht : tsOk ts = true) (h : p r) : AnsG (P := P) N (.done ts r) p :=
  ⟨r, h, fun n _ => by show (if tsOk ts = true then some r else none) = _; rw [if_pos ht]⟩
theorem AnsG.tidy {ts : List TS} {g : G P ρ} (ht : tsOk ts = true) (h : AnsG N g p) : AnsG N (.tidy ts g) p := by
  obtain ⟨r, h1, h2⟩ := h
  exact ⟨r, h1, fun n hn => by show (if tsOk ts = true then g.run n else none) = _; rw [if_pos ht]; exact h2 n hn⟩
theorem AnsG.unroll {m : Nat} {g : G P ρ} (h : AnsG N g p) : AnsG N (.unroll m g) p := h
theorem AnsG.join {sh : Sh} {Y : sh.El → AOut × St} {g : G P sh.El} {k : sh.El → G P ρ} (q : sh.El → Prop) (h : AnsG N g q) (hk : ∀ t, q t → AnsG N (k t) p) : AnsG N (.join sh Y g k) p :=
  Ans.bind (f := fun n => g.run n) (g := fun n t => (k t).run n) h hk
theorem AnsG.inl {pr : List PR} {g : G P ρ} (h : AnsG N g p) : AnsG N (.inl pr g) p := h
theorem AnsG.sp {c : Bool} {t f : G P ρ} (ht : c = true → AnsG N t p) (hf : c = false → AnsG N f p) : AnsG N (.sp c t f) p := by
  show Ans N (fun n => if c then t.run n else f.run n) p
  exact Ans.ite ht (fun h => hf (by simpa using h))
theorem AnsG.callR {c : CtrR P} {x : c.X} {k : c.sh.El → G P ρ} (q : c.sh.El → Prop) (h : Ans N (fun n => c.S n x) q) (hk : ∀ r, q r → AnsG N (k r) p) : AnsG N (.callR c x k) p :=
  Ans.bind (f := fun n => c.S n x) (g := fun n r => (k r).run n) h hk
theorem AnsG.call1 {c : Ctr1 P} {b v : Nat} {ex : List PR} {x : c.X} {k : c.sh.El → G P ρ} (q : c.sh.El → Prop) (h : Ans N (fun n => c.S n x) q) (hk : ∀ r, q r → AnsG N (k r) p) : AnsG N (.call1 c b v ex x k) p :=
  Ans.bind (f := fun n => c.S n x) (g := fun n r => (k r).run n) h hk
theorem AnsG.loop {σ : Type} {sh : Sh} {hd : List TS} {E : σ → St} {X : sh.El → AOut × St} {a0 : σ} {body : σ → G P (σ ⊕ sh.El)} {k : sh.El → G P ρ} (I : σ → Prop) (m : σ → Nat) (q : sh.El → Prop)
    (ht : tsOk hd = true) (hI : I a0) (hm : m a0 < N) (hb : ∀ a, I a → AnsG N (body a) (RoundOk I m q a))
    (hk : ∀ t, q t → AnsG N (k t) p) : AnsG N (.loop sh hd E X a0 body k) p := by
  have h1 := Ans.bind (f := fun n => iterO (fun a => (body a).run n) n a0) (g := fun n t => (k t).run n) (Ans.loop (N := N) (body := fun n a => (body a).run n) I m q hI hm hb) hk
  obtain ⟨r, h2, h3⟩ := h1
  exact ⟨r, h2, fun n hn => by show (if tsOk hd = true then (iterO (fun a => (body a).run n) n a0).bind fun t => (k t).run n else none) = _; rw [if_pos ht]; exact h3 n hn⟩
end
end Go.AM
/- What policy.Imports looks at answers. No conditions. -/
namespace Go.L
open Go.AM
set_option maxRecDepth 100000
set_option linter.unusedVariables false
def okPre (p : Prefix) : Bool := decide (0 ≤ p.Len) && decide (p.Len ≤ 32)
theorem valid_ans (N : Nat) (p : Prefix) : Ans N (fun n => c_addr_valid.S n p) fun (b : Bool) => b = true → 0 ≤ p.Len ∧ p.Len ≤ 32 := by
  refine (?_ : AnsG N (g_addr_valid p) _)
  unfold g_addr_valid
  refine .skip (.br (fun h => .skip (.done rfl ?_)) fun h => .skip (.done rfl ?_))
  · intro h2
    simp only [ge_iff_le, decide_eq_true_eq] at h h2
    exact ⟨h, h2⟩
  · intro h2; cases h2
theorem mask_ans (N : Nat) (x : Int) (h0 : 0 ≤ x) (h1 : x ≤ 32) : Ans N (fun n => c_addr_mask.S n x) fun (_ : Int) => True := by
  refine (?_ : AnsG N (g_addr_mask x) _)
  unfold g_addr_mask
  refine .skip (.op () ?_ (.skip (.done rfl trivial)))
  have : Go.IntKind.wrap .i64 (32 - x) = 32 - x := wrap_i64 (by omega) (by omega)
  rw [this]
  show (if decide (0 ≤ 32 - x) = true then some () else none) = _
  rw [if_pos (by simp; omega)]
theorem contains_ans (N : Nat) (p : Prefix) (ip : Int) : Ans N (fun n => c_addr_Contains.S n (p, ip)) fun (_ : Bool) => True := by
  refine (?_ : AnsG N (g_addr_Contains p ip) _)
  unfold g_addr_Contains
  refine .skip (.call _ (valid_ans N p) fun b hb => .skip (.br (fun h => ?_) fun h => .skip (.done rfl trivial)))
  obtain ⟨h0, h1⟩ := hb h
  exact .skip (.call _ (mask_ans N p.Len h0 h1) fun _ _ => .skip (.done rfl trivial))
theorem covers_ans (N : Nat) (p q : Prefix) : Ans N (fun n => c_addr_Covers.S n (p, q)) fun (_ : Bool) => True := by
  refine (?_ : AnsG N (g_addr_Covers p q) _)
  unfold g_addr_Covers
  refine .skip (.call _ (valid_ans N p) fun b hb => .skip (.br (fun h => .skip (.call _ (valid_ans N q) fun c hc => .skip (.br (fun h2 => .skip (.br (fun h3 => .skip (.call _ (contains_ans N p q.IP) fun _ _ => .skip (.done rfl trivial))) fun h3 => .skip (.done rfl trivial))) fun h2 => .skip (.done rfl trivial)))) fun h => .skip (.done rfl trivial)))
theorem prefix_ans (N : Nat) (r : Route) : Ans N (fun n => c_policy_Prefix.S n r) fun (_ : Prod Prefix Bool) => True := by
  refine (?_ : AnsG N (g_policy_Prefix r) _)
  unfold g_policy_Prefix
  (repeat' first | exact AnsG.done rfl trivial | refine AnsG.skip ?_ | refine AnsG.inl ?_ | refine AnsG.br (fun _ => ?_) (fun _ => ?_))
theorem idx_some {X : Type} (l : List X) (enc : X → List AVal) (n : Nat) (i : Int) (h0 : 0 ≤ i) (h1 : i < (l.length : Int)) : ∃ x, (idxO l enc n i).run = some x := by
  have h2 : i.toNat < l.length := by omega
  refine ⟨l[i.toNat], ?_⟩
  show at? l i = _
  simp [at?, h0, h2]
theorem nan_ans (N : Nat) (x : Int) : Ans N (fun n => c_cmp_isNaN_uint32.S n x) fun (_ : Bool) => True := by
  refine (?_ : AnsG N (g_cmp_isNaN_uint32 x) _)
  unfold g_cmp_isNaN_uint32
  (repeat' first | exact AnsG.done rfl trivial | refine AnsG.skip ?_ | refine AnsG.inl ?_ | refine AnsG.br (fun _ => ?_) (fun _ => ?_))
theorem nan2_ans (N : Nat) (x : Int) : Ans N (fun n => c_slices_isNaN_uint32.S n x) fun (_ : Bool) => True := by
  refine (?_ : AnsG N (g_slices_isNaN_uint32 x) _)
  unfold g_slices_isNaN_uint32
  (repeat' first | exact AnsG.done rfl trivial | refine AnsG.skip ?_ | refine AnsG.inl ?_ | refine AnsG.br (fun _ => ?_) (fun _ => ?_))
theorem less_ans (N : Nat) (x y : Int) : Ans N (fun n => c_cmp_Less_uint32.S n (x, y)) fun (_ : Bool) => True := by
  refine (?_ : AnsG N (g_cmp_Less_uint32 x y) _)
  unfold g_cmp_Less_uint32
  refine .skip (.call _ (nan_ans N x) fun b _ => .skip (.br (fun _ => .skip (.call _ (nan_ans N y) fun c _ => ?_)) fun _ => ?_)) <;> (repeat' first | exact AnsG.done rfl trivial | refine AnsG.skip ?_ | refine AnsG.inl ?_ | refine AnsG.br (fun _ => ?_) (fun _ => ?_))
theorem mid_eq (i j : Int) (h0 : 0 ≤ i) (h1 : 0 ≤ j) (h2 : i + j < 9223372036854775808) : Go.IntKind.wrap .i64 (Int.fdiv (Go.IntKind.wrap .u64 (Go.IntKind.wrap .i64 (i + j))) ((2 : Int) ^ (@Min.min Nat instMinNat (Int.toNat (1 : Int)) (Go.IntKind.bits .u64)))) = (i + j) / 2 := by
  have e1 : Go.IntKind.wrap .i64 (i + j) = i + j := wrap_i64 (by omega) (by omega)
  have e2 : Go.IntKind.wrap .u64 (i + j) = i + j := by
    simp only [Go.IntKind.wrap, Go.IntKind.bits, Go.IntKind.signed]
    simp
    omega
  have e3 : ((2 : Int) ^ (@Min.min Nat instMinNat (Int.toNat (1 : Int)) (Go.IntKind.bits .u64))) = 2 := by decide
  rw [e1, e2, e3, Int.fdiv_eq_ediv_of_nonneg _ (by omega)]
  exact wrap_i64 (by omega) (by omega)
theorem bsearch_ans (N : Nat) (l : List Int) (x : Int) (hl : l.length < 1000000) (hN : l.length < N) : Ans N (fun n => c_slices_BinarySearch_uint32_uint32.S n (l, x)) fun (_ : Prod Int Bool) => True := by
  refine (?_ : AnsG N (g_slices_BinarySearch_uint32_uint32 l x) _)
  unfold g_slices_BinarySearch_uint32_uint32
  refine .skip (.op () rfl (.skip (.loop (fun (a : Int × Int) => 0 ≤ a.1 ∧ a.1 ≤ a.2 ∧ a.2 ≤ (l.length : Int)) (fun a => (a.2 - a.1).toNat) (fun (t : Int) => 0 ≤ t ∧ t ≤ (l.length : Int)) rfl ⟨by simp, by simp, by simp⟩ ?_ ?_ ?_)))
  · simp; omega
  · rintro ⟨i, j⟩ ⟨h0, h1, h2⟩
    simp only at h0 h1 h2 ⊢
    refine .skip (.br (fun h => .skip ?_) fun h => .skip (.done rfl ?_))
    · simp only [decide_eq_true_eq] at h
      rw [mid_eq i j h0 (by omega) (by omega)]
      obtain ⟨y, hy⟩ := idx_some l (eI .u32) 1 ((i + j) / 2) (by omega) (by omega)
      refine .op y hy (.skip (.call _ (less_ans N y x) fun b _ => .br (fun _ => .skip (.done rfl ?_)) fun _ => .skip (.done rfl ?_)))
      · rw [wrap_i64 (by omega) (by omega)]
        refine ⟨⟨?_, ?_, ?_⟩, ?_⟩ <;> simp only <;> omega
      · refine ⟨⟨?_, ?_, ?_⟩, ?_⟩ <;> simp only <;> omega
    · exact ⟨h0, by omega⟩
  · rintro t ⟨h0, h1⟩
    refine .skip (.br (fun h => .skip ?_) fun h => ?_)
    · simp only [decide_eq_true_eq] at h
      obtain ⟨y, hy⟩ := idx_some l (eI .u32) 1 t h0 h
      refine .op y hy (.skip (.br (fun _ => ?_) fun _ => .skip (.op y hy (.skip (.call _ (nan2_ans N y) fun b _ => .skip (.br (fun _ => .skip (.call _ (nan2_ans N x) fun c _ => ?_)) fun _ => ?_)))))) <;> (repeat' first | exact AnsG.done rfl trivial | refine AnsG.skip ?_ | refine AnsG.inl ?_ | refine AnsG.br (fun _ => ?_) (fun _ => ?_))
    · (repeat' first | exact AnsG.done rfl trivial | refine AnsG.skip ?_ | refine AnsG.inl ?_ | refine AnsG.br (fun _ => ?_) (fun _ => ?_))
theorem has_ans (N : Nat) (l : List Int) (x : Int) (hl : l.length < 1000000) (hN : l.length < N) : Ans N (fun n => c_policy_has.S n (l, x)) fun (_ : Bool) => True := by
  refine (?_ : AnsG N (g_policy_has l x) _)
  unfold g_policy_has
  exact .skip (.call _ (bsearch_ans N l x hl hN) fun r _ => .skip (.done rfl trivial))
end Go.L
/- The imports of a list for a route: the places of the imports that are selected, in strictly ascending order. No conditions. -/
namespace Go.L
open Go.AM
set_option maxRecDepth 100000
set_option linter.unusedVariables false

def keysI (m : List (Int × S158)) : List Int := m.map (·.1)
theorem eqI (a b : Int) : eqwim24 a b = decide (a = b) := by simp [eqwim24, BEq.beq]

theorem findI_none : ∀ (m : List (Int × S158)) (k : Int) (j : Nat), findM eqwim24 k m j = none → k ∉ keysI m
  | [], _, _, _ => by simp [keysI]
  | p :: ps, k, j, h => by
    simp only [findM, eqI, decide_eq_true_eq] at h
    split at h
    · cases h
    · rename_i hne
      have := findI_none ps k (j + 1) h
      simp only [keysI, List.map_cons, List.mem_cons, not_or] at this ⊢
      exact ⟨hne, this⟩
theorem findI_some : ∀ (m : List (Int × S158)) (k : Int) (j i : Nat) (v : S158), findM eqwim24 k m j = some (i, v) → j ≤ i ∧ (keysI m)[i - j]? = some k
  | [], _, _, _, _, h => by simp [findM] at h
  | p :: ps, k, j, i, v, h => by
    simp only [findM, eqI, decide_eq_true_eq] at h
    split at h
    · rename_i he
      simp only [Option.some.injEq, Prod.mk.injEq] at h
      obtain ⟨rfl, _⟩ := h
      exact ⟨Nat.le_refl _, by simp [keysI, he]⟩
    · obtain ⟨h1, h2⟩ := findI_some ps k (j + 1) i v h
      refine ⟨by omega, ?_⟩
      have : i - j = (i - (j + 1)) + 1 := by omega
      rw [this]
      simpa [keysI] using h2

theorem putI (m : List (Int × S158)) (k : Int) (v : S158) (hn : (keysI m).Nodup) : (keysI (putM eqwim24 k v m)).Nodup ∧ (∀ x, x ∈ keysI (putM eqwim24 k v m) ↔ x ∈ keysI m ∨ x = k) ∧ (putM eqwim24 k v m).length ≤ m.length + 1 := by
  unfold putM
  split
  · rename_i i w hf
    obtain ⟨_, h2⟩ := findI_some m k 0 i w hf
    simp only [Nat.sub_zero] at h2
    have he : keysI (m.set i (k, v)) = keysI m := by
      simp only [keysI, List.map_set] at h2 ⊢
      obtain ⟨hl, hg⟩ := List.getElem?_eq_some_iff.1 h2
      rw [← hg]
      exact List.set_getElem_self hl
    rw [he]
    refine ⟨hn, fun x => ⟨.inl, fun h => ?_⟩, by simp⟩
    rcases h with h | rfl
    · exact h
    · exact List.mem_of_getElem? h2
  · rename_i hf
    have h2 := findI_none m k 0 hf
    have he : keysI (m ++ [(k, v)]) = keysI m ++ [k] := by simp [keysI]
    rw [he]
    refine ⟨?_, fun x => by simp, by simp⟩
    rw [List.nodup_append]
    exact ⟨hn, by simp, fun x hx y hy => by simp only [List.mem_singleton] at hy; subst hy; rintro rfl; exact h2 hx⟩

/-- Is an import selected? -/
noncomputable def hasB (n : Nat) (tg : List Int) (t : Int) : Bool := ((c_policy_has.S n (tg, t) : Option Bool)).getD false
noncomputable def covB (n : Nat) (p q : Prefix) : Bool := ((c_addr_Covers.S n (p, q) : Option Bool)).getD false
noncomputable def selI (n : Nat) (tg : List Int) (pf : Prefix × Bool) (x : Import) : Bool := hasB n tg x.Target && (!x.HasPrefix || (pf.2 && covB n x.Prefix pf.1))

theorem has_b {n : Nat} {tg : List Int} (t : Int) (h : tg.length < 1000000) (hn : tg.length < n) : At (c_policy_has.S n (tg, t)) (fun b => b = hasB n tg t) := by
  obtain ⟨b, _, hb⟩ := has_ans (tg.length + 1) tg t h (Nat.lt_succ_self _)
  have h2 : (c_policy_has.S n (tg, t) : Option Bool) = some b := hb n (by omega)
  exact ⟨b, h2, (congrArg (fun (o : Option Bool) => o.getD false) h2).symm⟩
theorem cov_b {n : Nat} (p q : Prefix) : At (c_addr_Covers.S n (p, q)) (fun b => b = covB n p q) := by
  obtain ⟨b, _, hb⟩ := covers_ans 0 p q
  have h2 : (c_addr_Covers.S n (p, q) : Option Bool) = some b := hb n (Nat.zero_le _)
  exact ⟨b, h2, (congrArg (fun (o : Option Bool) => o.getD false) h2).symm⟩

/-- What has been collected after i imports. -/
def InvI (n : Nat) (tg : List Int) (pf : Prefix × Bool) (l : List Import) (a : Int × List (Int × S158)) : Prop :=
  ∃ i : Nat, a.1 = (i : Int) ∧ i ≤ l.length ∧ (keysI a.2).Nodup ∧ a.2.length ≤ i ∧ ∀ k, k ∈ keysI a.2 ↔ ∃ x ∈ l.take i, selI n tg pf x = true ∧ x.Place = k

theorem InvI.step {n : Nat} {tg : List Int} {pf : Prefix × Bool} {l : List Import} {a : Int × List (Int × S158)} (h : InvI n tg pf l a) (hl : l.length < 100000) {x : Import} (hlt : a.1 < (l.length : Int)) (hx : l[a.1.toNat]? = some x) (m' : List (Int × S158))
    (hm : (selI n tg pf x = true ∧ m' = putM eqwim24 x.Place Go.L.S158.mk a.2) ∨ (selI n tg pf x = false ∧ m' = a.2)) :
    InvI n tg pf l (Go.IntKind.wrap .i64 (a.1 + 1), m') ∧ l.length - (Go.IntKind.wrap .i64 (a.1 + 1)).toNat < l.length - a.1.toNat := by
  obtain ⟨i, hi, hil, hnd, hlen, hk⟩ := h
  rw [hi] at hx hlt ⊢
  simp only [Int.toNat_natCast] at hx
  have hw : Go.IntKind.wrap .i64 ((i : Int) + 1) = ((i + 1 : Nat) : Int) := by rw [wrap_i64 (by omega) (by omega)]; rfl
  have hi' : i < l.length := by omega
  rw [hw]
  have ht : l.take (i + 1) = l.take i ++ [x] := by
    rw [List.take_add_one, hx]; rfl
  refine ⟨⟨i + 1, rfl, by omega, ?_⟩, by simp only [Int.toNat_natCast]; omega⟩
  rcases hm with ⟨hs, rfl⟩ | ⟨hs, rfl⟩
  · obtain ⟨p1, p2, p3⟩ := putI a.2 x.Place Go.L.S158.mk hnd
    refine ⟨p1, Nat.le_trans p3 (Nat.succ_le_succ hlen), fun k => ?_⟩
    show k ∈ keysI (putM _ _ _ _) ↔ _
    rw [p2, hk, ht]
    constructor
    · rintro (⟨y, hy, h1, h2⟩ | rfl)
      · exact ⟨y, List.mem_append_left _ hy, h1, h2⟩
      · exact ⟨x, by simp, hs, rfl⟩
    · rintro ⟨y, hy, h1, h2⟩
      rcases List.mem_append.1 hy with hy | hy
      · exact .inl ⟨y, hy, h1, h2⟩
      · simp only [List.mem_singleton] at hy; subst hy; exact .inr h2.symm
  · refine ⟨hnd, Nat.le_succ_of_le hlen, fun k => ?_⟩
    rw [hk, ht]
    constructor
    · rintro ⟨y, hy, h1, h2⟩
      exact ⟨y, List.mem_append_left _ hy, h1, h2⟩
    · rintro ⟨y, hy, h1, h2⟩
      rcases List.mem_append.1 hy with hy | hy
      · exact ⟨y, hy, h1, h2⟩
      · simp only [List.mem_singleton] at hy; subst hy; rw [hs] at h1; cases h1

/-- The imports of a list, as they are told. -/
def ImpsOf (n : Nat) (tg : List Int) (pf : Prefix × Bool) (l : List Import) (out : List Int) : Prop :=
  (out.Pairwise (· < ·) ∧ out.length ≤ l.length) ∧ ∀ k, k ∈ out ↔ ∃ x ∈ l, selI n tg pf x = true ∧ x.Place = k

theorem imports_at (n : Nat) (r : Route) (tg : List Int) (pf : Prefix × Bool) (ht : c_comm_Targets.S n r.A.Comms = some tg) (hp : c_policy_Prefix.S n r = some pf) (htl : tg.length < 1000000) (htn : tg.length < n) (l : List Import) (hl : l.length < 100000) (hn : l.length < n) :
    At (c_policy_Imports.S n (l, r)) (ImpsOf n tg pf l) := by
  refine (?_ : AtG n (g_policy_Imports l r) _)
  unfold g_policy_Imports
  refine .skip (.call (fun q => q = tg) ⟨tg, ht, rfl⟩ fun q hq => ?_)
  subst hq
  refine .skip (.call (fun q => q = pf) ⟨pf, hp, rfl⟩ fun q' hq => ?_)
  subst hq
  refine .skip (.op () rfl (.skip (.loop (InvI n q q' l) (fun a => l.length - a.1.toNat) (fun t => (keysI t).Nodup ∧ t.length ≤ l.length ∧ ∀ k, k ∈ keysI t ↔ ∃ x ∈ l, selI n q q' x = true ∧ x.Place = k) rfl
    ⟨0, rfl, Nat.zero_le _, List.nodup_nil, Nat.le_refl _, by simp [keysI]⟩ (by show l.length - 0 < n; omega) (fun a ha => ?_) (fun t hq => ?_))))
  · refine .skip (.br (fun h => .skip ?_) (fun h => .skip (.done rfl ?_)))
    · simp only [decide_eq_true_eq] at h
      have h0 : 0 ≤ a.1 := by obtain ⟨i, hi, _⟩ := ha; omega
      have hlt : a.1.toNat < l.length := by omega
      have hx : l[a.1.toNat]? = some (l[a.1.toNat]) := List.getElem?_eq_getElem hlt
      refine .op (l[a.1.toNat]) ?_ (.skip (.call _ (has_b _ htl htn) fun b hb => .skip (.br (fun hb1 => .skip (.br (fun hpx => .skip (.op () rfl (.skip (.done rfl ?_)))) fun hpx => .skip (.br (fun hp2 => .skip (.call _ (cov_b _ _) fun c hc => .skip (.br (fun hc1 => .skip (.op () rfl (.skip (.done rfl ?_)))) fun hc1 => .skip (.done rfl ?_)))) fun hp2 => .skip (.done rfl ?_)))) fun hb1 => .skip (.done rfl ?_))))
      · show at? l a.1 = _
        simp [at?, h0, hlt]
      · refine ha.step hl h hx _ (.inl ⟨?_, rfl⟩)
        subst hb
        simp only [selI, hb1, hpx, Bool.true_and, Bool.true_or]
      · refine ha.step hl h hx _ (.inl ⟨?_, rfl⟩)
        subst hb; subst hc
        simp only [selI, hb1, hp2, hc1, Bool.true_and, Bool.or_true]
      · refine ha.step hl h hx _ (.inr ⟨?_, rfl⟩)
        subst hb; subst hc
        simp only [selI, hb1, hp2, hc1, hpx, Bool.and_false, Bool.or_false]
      · refine ha.step hl h hx _ (.inr ⟨?_, rfl⟩)
        subst hb
        simp only [selI, hb1, hp2, hpx, Bool.true_and, Bool.false_and, Bool.or_false]
      · refine ha.step hl h hx _ (.inr ⟨?_, rfl⟩)
        subst hb
        simp only [selI, hb1, Bool.false_and]
    · simp only [decide_eq_false_iff_not] at h
      obtain ⟨i, hi, hil, hnd, hlen, hk⟩ := ha
      have : i = l.length := by omega
      subst this
      rw [List.take_length] at hk
      exact ⟨hnd, hlen, hk⟩
  · obtain ⟨hnd, hlen, hk⟩ := hq
    have hms : ((keysI t).mergeSort Sn.le).length = t.length := by rw [List.length_mergeSort]; exact List.length_map ..
    refine .skip (.inl (.skip (.tidy rfl (.inl (.inl (.callR (fun (y : Nat × List Int) => y = (t.length, (keysI t).mergeSort Sn.le)) ⟨(t.length, (keysI t).mergeSort Sn.le), if_pos (by show t.length < 1000000; omega), rfl⟩ fun y hy => .skip (.done ?_ ?_)))))))
    · rw [show y = (t.length, (keysI t).mergeSort Sn.le) from hy]
      simp only [tsOk, fzRow, Bool.and_true]
      exact decide_eq_true (by rw [List.length_map]; exact hms.symm)
    · rw [show y = (t.length, (keysI t).mergeSort Sn.le) from hy]
      have hperm := List.mergeSort_perm (keysI t) Sn.le
      refine ⟨⟨?_, by show ((keysI t).mergeSort Sn.le).length ≤ _; rw [hms]; exact hlen⟩, fun k => ?_⟩
      · have h1 := List.pairwise_mergeSort (le := Sn.le) (by intro a b c; simp only [Sn.le, decide_eq_true_eq]; omega) (by intro a b; simp only [Sn.le, Bool.or_eq_true, decide_eq_true_eq]; omega) (keysI t)
        have h2 : ((keysI t).mergeSort Sn.le).Nodup := hperm.nodup_iff.2 hnd
        exact (h1.and h2).imp fun {a b} h => by have := h.1; simp only [Sn.le, decide_eq_true_eq] at this; have := h.2; omega
      · rw [hperm.mem_iff]; exact hk k
end Go.L
/- What comm.Targets and kit.Has compute. No conditions. -/
namespace Go.L
open Go.AM Go.Sort
set_option maxRecDepth 100000
set_option linter.unusedSimpArgs false
set_option linter.unusedVariables false
def kindS (c : V8 Int) : Int :=
  if c.a0 = 0 ∧ c.a1 = 2 then 1 else if c.a0 = 3 ∧ c.a1 = 12 then 2 else if c.a0 = 6 ∧ c.a1 = 0 then 3 else if c.a0 = 6 ∧ c.a1 = 1 then 4 else if c.a0 = 6 ∧ c.a1 = 2 then 5 else if c.a0 = 6 ∧ c.a1 = 3 then 6 else if c.a0 = 6 ∧ c.a1 = 6 then 7 else 0
theorem kind_run (n : Nat) (c : V8 Int) : c_comm_Kind.S n c = some (kindS c) := by
  show (g_comm_Kind c).run n = _
  simp only [g_comm_Kind, G.run, tsOk, if_true, kindS, Bool.and_true, Bool.and_eq_true, beq_iff_eq]
  have e : ∀ (a b : Int), (a = b) = (b = a) := fun a b => propext eq_comm
  simp only [e 0, e 1, e 2, e 3, e 6, e 12]
  repeat' split
  all_goals rfl
theorem kind_b {n : Nat} (c : V8 Int) {β : Type} (k : c_comm_Kind.sh.El → Option β) : (c_comm_Kind.S n c).bind k = k (kindS c) := by rw [kind_run]; rfl
def stB (a x : Int) : Int := Go.IntKind.wrap .u64 (((@BitVec.toNat (Go.IntKind.bits .u64) ((BitVec.ofInt (Go.IntKind.bits .u64) (Go.IntKind.wrap .u64 (a * ((2 : Int) ^ (@Min.min Nat instMinNat (Int.toNat (8 : Int)) (Go.IntKind.bits .u64)))))) ||| (BitVec.ofInt (Go.IntKind.bits .u64) (Go.IntKind.wrap .u64 x)))) : Nat) : Int)
theorem nat64 {i : Nat} (h : i < 1000000) : Go.IntKind.wrap .i64 ((i : Int) + 1) = ((i + 1 : Nat) : Int) := by rw [wrap_i64 (by omega) (by omega)]; omega
def tgtS (c : V8 Int) : Option Int := if kindS c = 1 ∧ stB (stB 0 c.a2) c.a3 = 65000 then some (Go.IntKind.wrap .u32 (stB (stB (stB (stB 0 c.a4) c.a5) c.a6) c.a7)) else none
theorem tgt_none {c : V8 Int} (h : kindS c ≠ 1) : tgtS c = none := by unfold tgtS; rw [if_neg (fun q => h q.1)]

theorem compact_b {N n : Nat} (l : List Int) (hn : l.length = n) {β : Type} (k : c_slices_Compact_uint32_uint32.sh.El → Option β) : (c_slices_Compact_uint32_uint32.S N (l, n)).bind k = k (Lib.compact l) := by
  have : c_slices_Compact_uint32_uint32.S N (l, n) = some (Lib.compact l) := by
    show compactS (l, n) = _
    unfold compactS
    rw [if_pos hn.symm]
  rw [this]; rfl

theorem targets_run (M : Nat) (l : List (V8 Int)) (hl : l.length < 1000) (hN : l.length + 10 < M) : c_comm_Targets.S M l = some (uniq (l.filterMap tgtS)) := by
  show (g_comm_Targets l).run M = _
  simp only [g_comm_Targets, G.run, tsOk, if_true, lenO_bind, idxO_bind, kind_b]
  refine bind_iter (I := fun s => ∃ i : Nat, s = ((i : Int), (l.take i).filterMap tgtS) ∧ i ≤ l.length) (m := fun s => l.length - s.1.toNat) (F := fun _ => l.filterMap tgtS) ⟨0, rfl, Nat.zero_le _⟩ (by simp; omega) (fun s hs => ?_) ?_
  · obtain ⟨i, rfl, hi⟩ := hs
    by_cases he : i = l.length
    · left
      subst he
      rw [if_neg (by simp)]
      simp
    · right
      have hil : i < l.length := by omega
      have e1 : at? l (i : Int) = some l[i] := by rw [at?_nat]; exact List.getElem?_eq_getElem hil
      have e2 : (l.take (i + 1)).filterMap tgtS = (l.take i).filterMap tgtS ++ (tgtS l[i]).toList := by
        rw [List.take_add_one, List.filterMap_append, List.getElem?_eq_getElem hil]
        cases h : tgtS l[i] <;> simp [h]
      have hroom : ((l.take i).filterMap tgtS).length ≤ i := Nat.le_trans (List.length_filterMap_le _ _) (by simp; omega)
      refine ⟨(((i + 1 : Nat) : Int), (l.take (i + 1)).filterMap tgtS), ?_, ⟨i + 1, rfl, by omega⟩, rfl, by simp only [Int.toNat_natCast]; omega⟩
      rw [if_pos (by simp; omega)]
      simp only [e1, Option.bind_some, appO_bind, nat64 (show i < 1000000 by omega)]
      rw [e2]
      by_cases hk : kindS l[i] = 1
      · rw [if_pos (by simpa using hk)]
        by_cases ha : stB (stB 0 l[i].a2) l[i].a3 = 65000
        · have ht : tgtS l[i] = some (Go.IntKind.wrap .u32 (stB (stB (stB (stB 0 l[i].a4) l[i].a5) l[i].a6) l[i].a7)) := by unfold tgtS; rw [if_pos ⟨hk, ha⟩]
          rw [ht]
          refine (if_pos (show (stB (stB 0 l[i].a2) l[i].a3 == 65000) = true by simpa using ha)).trans ?_
          refine (if_pos ⟨trivial, by simp [roomy]; omega⟩).trans ?_
          rfl
        · have ht : tgtS l[i] = none := by unfold tgtS; rw [if_neg (fun q => ha q.2)]
          rw [ht]
          refine (if_neg (show ¬ (stB (stB 0 l[i].a2) l[i].a3 == 65000) = true by simpa using ha)).trans ?_
          simp
      · rw [if_neg (by simpa using hk), tgt_none hk]
        simp
  · have hT : (l.filterMap tgtS).length ≤ l.length := List.length_filterMap_le _ _
    refine (sort_b (l.filterMap tgtS) rfl (by omega) (by omega) _).trans ?_
    refine (compact_b _ (by simp) _).trans ?_
    exact if_pos (by simp [fzRow])

theorem has_run (M : Nat) (l : List Int) (x : Int) (hl : l.length < 100000) (hN : l.length + 1 < M) : c_kit_Has_int.S M (l, x) = some (decide (x ∈ l)) := by
  show (g_kit_Has_int l x).run M = _
  simp only [g_kit_Has_int, G.run, tsOk, if_true, lenO_bind, idxO_bind]
  refine bind_ex (I := fun s => ∃ i : Nat, s = (i : Int) ∧ i ≤ l.length ∧ ∀ j, j < i → l[j]? ≠ some x) (m := fun s => l.length - s.toNat) (Q := fun t => (t = .inl () ∧ x ∈ l) ∨ (t = .inr () ∧ x ∉ l)) ⟨0, rfl, Nat.zero_le _, fun j hj => absurd hj (Nat.not_lt_zero _)⟩ (by simp; omega) (fun s hs => ?_) (fun t ht => ?_)
  · obtain ⟨i, rfl, hi, hno⟩ := hs
    by_cases he : i = l.length
    · left
      subst he
      rw [if_neg (by simp)]
      refine ⟨_, rfl, .inr ⟨rfl, fun h => ?_⟩⟩
      obtain ⟨j, h1, h2⟩ := List.getElem_of_mem h
      exact hno j h1 (by rw [List.getElem?_eq_getElem h1, h2])
    · have hil : i < l.length := by omega
      have e1 : at? l (i : Int) = some l[i] := by rw [at?_nat]; exact List.getElem?_eq_getElem hil
      rw [if_pos (by simp; omega), e1]
      simp only [Option.bind_some, nat64 (show i < 1000000 by omega)]
      by_cases hx : l[i] = x
      · left
        rw [if_pos (by simpa using hx)]
        exact ⟨_, rfl, .inl ⟨rfl, by rw [← hx]; exact List.getElem_mem hil⟩⟩
      · right
        rw [if_neg (by simpa using hx)]
        refine ⟨_, rfl, ⟨i + 1, rfl, by omega, fun j hj => ?_⟩, by simp only [Int.toNat_natCast]; omega⟩
        by_cases hji : j = i
        · subst hji; rw [List.getElem?_eq_getElem hil]; simpa using hx
        · exact hno j (by omega)
  · rcases ht with ⟨rfl, h⟩ | ⟨rfl, h⟩
    · rw [decide_eq_true h]; rfl
    · rw [decide_eq_false h]; rfl
end Go.L
/- The law of the imports: whatever the lists of imports and the route. No conditions. -/
namespace Go.L
open Go.AM
set_option maxRecDepth 100000
set_option linter.unusedVariables false
set_option linter.unusedSimpArgs false

theorem uniq_len (l : List Int) : (uniq l).length ≤ l.length := by
  unfold uniq Lib.compact Lib.compactUpTo
  rw [List.length_map]
  refine Nat.le_trans (List.length_filter_le _ _) ?_
  simp

theorem lightRoute_at (r : Route) : At (c_kit_LightRoute.S 1000 r) fun (b : Bool) => b = true → r.A.Comms.length ≤ 80 := by
  refine (?_ : AtG 1000 (g_kit_LightRoute r) _)
  unfold g_kit_LightRoute
  refine .skip (.op () rfl (.skip (.br (fun h => .skip (.op () rfl (.skip (.br (fun h2 => .skip (.op () rfl (.skip (.done rfl fun h3 => ?_)))) fun h2 => .skip (.done rfl fun q => by cases q))))) fun h => .skip (.done rfl fun q => by cases q))))
  have h4 := of_decide_eq_true h3
  omega

theorem lightRoutes_at (r : Route) : At (c_kit_LightRoutes.S 1000 ([r], (20 : Int))) fun (b : Bool) => b = true → r.A.Comms.length ≤ 80 := by
  refine (?_ : AtG 1000 (g_kit_LightRoutes [r] (20 : Int)) _)
  unfold g_kit_LightRoutes
  refine .skip (.loop (fun a => a = (0 : Int) ∨ (a = (1 : Int) ∧ r.A.Comms.length ≤ 80)) (fun a => 1 - a.toNat) (fun t => t = .inl () ∨ (t = .inr () ∧ r.A.Comms.length ≤ 80)) rfl (.inl rfl) (by decide) (fun a ha => ?_) (fun t ht => ?_))
  · rcases ha with rfl | ⟨rfl, hc⟩
    · refine .skip (.op () rfl (.skip (.br (fun _ => .skip (.op r rfl (.skip (.call _ (lightRoute_at r) fun b hb => .skip (.br (fun h => .skip (.done rfl (.inl rfl))) fun h => .skip (.done rfl ?_)))))) fun h => absurd h (by simp))))
      refine ⟨.inr ⟨rfl, hb ?_⟩, by decide⟩
      cases b with
      | true => rfl
      | false => cases h
    · refine .skip (.op () rfl (.skip (.br (fun h => absurd h (by simp)) fun _ => .skip (.done rfl (.inr ⟨rfl, hc⟩)))))
  · rcases ht with rfl | ⟨rfl, hc⟩
    · exact .done rfl fun q => by cases q
    · exact .skip (.op () rfl (.skip (.done rfl fun _ => hc)))

theorem light_at (l : List Import) (r : Route) : At (c_law19_light.S 1000 ([], l, [r])) fun (b : Bool) => b = true → l.length ≤ 30 ∧ r.A.Comms.length ≤ 80 := by
  refine (?_ : AtG 1000 (g_law19_light [] l [r]) _)
  unfold g_law19_light
  refine .skip (.loop (fun a => a = (0 : Int)) (fun _ => 0) (fun t => t = .inr ()) rfl rfl (by decide) (fun a ha => ?_) (fun t ht => ?_))
  · subst ha
    exact .skip (.op () rfl (.skip (.br (fun h => absurd h (by decide)) fun _ => .skip (.done rfl rfl))))
  · subst ht
    refine .skip (.op () rfl (.skip (.br (fun _ => .skip (.op () rfl (.skip (.br (fun h => .skip (.call _ (lightRoutes_at r) fun b hb => .skip (.done rfl fun hb' => ⟨?_, hb hb'⟩))) fun h => .skip (.done rfl fun q => by cases q))))) fun h => absurd h (by decide))))
    have h4 := of_decide_eq_true h
    omega

theorem hasI_at (l : List Int) (x : Int) (hl : l.length < 900) : At (c_kit_Has_int.S 1000 (l, x)) fun (b : Bool) => b = decide (x ∈ l) :=
  ⟨_, has_run 1000 l x (by omega) (by omega), rfl⟩

theorem imports_law (l : List Import) (r : Route) (hl : l.length ≤ 60) (hc : r.A.Comms.length ≤ 80) : ∃ tg pf, c_comm_Targets.S 1000 r.A.Comms = some tg ∧ tg.length ≤ r.A.Comms.length ∧ ∀ l : List Import, l.length ≤ 60 → At (c_policy_Imports.S 1000 (l, r)) (ImpsOf 1000 tg pf l) := by
  obtain ⟨pf, _, hp⟩ := prefix_ans 0 r
  have ht := targets_run 1000 r.A.Comms (by omega) (by omega)
  have htl : (uniq (r.A.Comms.filterMap tgtS)).length ≤ r.A.Comms.length := Nat.le_trans (uniq_len _) (List.length_filterMap_le _ _)
  exact ⟨uniq (r.A.Comms.filterMap tgtS), pf, ht, htl, fun l hl => imports_at 1000 r _ pf ht (hp 1000 (Nat.zero_le _)) (by omega) (by omega) l (by omega) (by omega)⟩

theorem has_nil (t : Int) : (c_policy_has.S 1000 ([], t) : Option Bool) = some false := by kernel_rfl
theorem sel_nil (pf : Prefix × Bool) (x : Import) : selI 1000 [] pf x = false := by
  unfold selI hasB
  rw [has_nil]
  rfl
theorem imps_nil {pf : Prefix × Bool} {l : List Import} {out : List Int} (h : ImpsOf 1000 [] pf l out) : out = [] := by
  refine List.eq_nil_iff_forall_not_mem.2 fun k hk => ?_
  obtain ⟨x, _, hs, _⟩ := (h.2 k).1 hk
  rw [sel_nil] at hs
  cases hs

theorem idx_at {l : List Int} {i : Nat} (h : i < l.length) : (idxO l (Go.AM.eI .i64) 1 (i : Int)).run = some l[i] := by
  show at? l (i : Int) = _
  simp [at?, h]

theorem imports_run (x1 x2 : List Import) (r : Route) : AtG 1000 (g_law19_PolicyImports x1 x2 r) fun b => b = true := by
  unfold g_law19_PolicyImports
  refine .skip (.call (fun b => b = true) ⟨true, rfl, rfl⟩ fun b hb => .skip (.br (fun h => by subst hb; cases h) fun _ => .skip (.call _ (light_at x1 r) fun (r6 : Bool) h6 => .skip (.br (fun _ => .skip (.done rfl rfl)) fun hl => .skip (.op () rfl (.skip (.br (fun _ => .skip (.done rfl rfl)) fun h2 => ?_)))))))
  have h61 : r6 = true := by cases r6 with
    | true => rfl
    | false => cases hl
  obtain ⟨l1, hc⟩ := h6 h61
  have l2 : x2.length ≤ 30 := by have := of_decide_eq_false h2; omega
  obtain ⟨tg, pf, ht, htl, him⟩ := imports_law x1 r (by omega) hc
  refine .skip (.callR _ (him x1 (by omega)) fun (r9 : List Int) h9 => .skip (.callR _ (him x2 (by omega)) fun (r10 : List Int) h10 => .skip (.inl (.callR (fun y => y = x1) ⟨x1, ?_, rfl⟩ fun (r11 : List Import) h11 => ?_))))
  · show (g_kit_Own_Import x1).run 1000 = some x1
    have hr : roomy (0 + x1.length) 32 = true := by simp [roomy]; omega
    simp only [g_kit_Own_Import, G.run, appO, List.length_nil, tsOk, if_true, true_and]
    rw [if_pos hr]
    rfl
  subst h11
  refine .skip (.op () ?_ (.skip (.call1 (ImpsOf 1000 tg pf (r11 ++ x2)) ?_ fun (r12 : List Int) h12 => ?_)))
  · exact if_pos ⟨rfl, by simp [roomy]; omega⟩
  · obtain ⟨y, hy, hp⟩ := him (r11 ++ x2) (by rw [List.length_append]; omega)
    exact ⟨y, (if_pos rfl).trans hy, hp⟩
  have q9 : r9.length ≤ 30 := Nat.le_trans h9.1.2 l1
  have q10 : r10.length ≤ 30 := Nat.le_trans h10.1.2 l2
  have q12 : r12.length ≤ 60 := Nat.le_trans h12.1.2 (by rw [List.length_append]; omega)
  have mem : ∀ k, k ∈ r12 ↔ k ∈ r9 ∨ k ∈ r10 := fun k => by
    rw [h12.2, h9.2, h10.2]
    constructor
    · rintro ⟨x, hx, h⟩
      rcases List.mem_append.1 hx with hx | hx
      · exact .inl ⟨x, hx, h⟩
      · exact .inr ⟨x, hx, h⟩
    · rintro (⟨x, hx, h⟩ | ⟨x, hx, h⟩)
      · exact ⟨x, List.mem_append_left _ hx, h⟩
      · exact ⟨x, List.mem_append_right _ hx, h⟩
  have wr : ∀ i : Nat, i < 1000 → Go.IntKind.wrap .i64 ((i : Int) + 1) = ((i + 1 : Nat) : Int) := fun i hi => by rw [wrap_i64 (by omega) (by omega)]; rfl
  refine .skip (.loop (fun a => ∃ i : Nat, a = (i : Int) ∧ i ≤ r12.length) (fun a => r12.length - a.toNat) (fun t => t = .inr ()) rfl ⟨0, rfl, Nat.zero_le _⟩ (by show r12.length - 0 < 1000; omega) (fun a ha => ?_) (fun t ht' => ?_))
  · obtain ⟨i, rfl, hi⟩ := ha
    refine .skip (.op () rfl (.skip (.br (fun h => .skip ?_) (fun h => .skip (.done rfl rfl)))))
    have hil : i < r12.length := by have := of_decide_eq_true h; omega
    have nx : RoundAt (fun a => ∃ i : Nat, a = (i : Int) ∧ i ≤ r12.length) (fun a => r12.length - a.toNat) (fun (t : Unit ⊕ Unit) => t = .inr ()) (i : Int) (.inl (Go.IntKind.wrap .i64 ((i : Int) + 1))) := by
      rw [wr i (by omega)]
      exact ⟨⟨i + 1, rfl, hil⟩, by simp only [Int.toNat_natCast]; omega⟩
    have m12 := (mem r12[i]).1 (List.getElem_mem hil)
    refine .br (fun hp => ?_) (fun hp => ?_)
    · have hi0 : 0 < i := by have := of_decide_eq_true hp; omega
      have hw : Go.IntKind.wrap .i64 ((i : Int) - 1) = ((i - 1 : Nat) : Int) := by rw [wrap_i64 (by omega) (by omega)]; omega
      refine .skip (.op r12[i - 1] (by rw [hw]; exact idx_at (by omega)) (.skip (.op r12[i] (idx_at hil) (.skip (.br (fun hge => ?_) fun _ => .skip (.op r12[i] (idx_at hil) (.skip (.call _ (hasI_at r9 r12[i] (by omega)) fun b9 e9 => .skip (.br (fun hn => .skip (.op r12[i] (idx_at hil) (.skip (.call _ (hasI_at r10 r12[i] (by omega)) fun b10 e10 => .skip (.br (fun hn2 => ?_) fun _ => .skip (.done rfl nx)))))) fun _ => .skip (.done rfl nx))))))))))
      · exfalso
        have h1 := List.pairwise_iff_getElem.1 h12.1.1 (i - 1) i (by omega) hil (by omega)
        have h2 := of_decide_eq_true hge
        omega
      · exfalso
        subst e9; subst e10
        simp only [Bool.not_eq_true', decide_eq_false_iff_not] at hn hn2
        rcases m12 with m | m
        · exact hn m
        · exact hn2 m
    · refine .skip (.op r12[i] (idx_at hil) (.skip (.call _ (hasI_at r9 r12[i] (by omega)) fun b9 e9 => .skip (.br (fun hn => .skip (.op r12[i] (idx_at hil) (.skip (.call _ (hasI_at r10 r12[i] (by omega)) fun b10 e10 => .skip (.br (fun hn2 => ?_) fun _ => .skip (.done rfl nx)))))) fun _ => .skip (.done rfl nx)))))
      exfalso
      subst e9; subst e10
      simp only [Bool.not_eq_true', decide_eq_false_iff_not] at hn hn2
      rcases m12 with m | m
      · exact hn m
      · exact hn2 m
  subst ht'
  have ws : Go.IntKind.wrap .i64 (((r9.length : Nat) : Int) + ((r10.length : Nat) : Int)) = ((r9.length + r10.length : Nat) : Int) := by rw [wrap_i64 (by omega) (by omega)]; rfl
  refine .skip (.loop (fun a => ∃ i : Nat, a = (i : Int) ∧ i ≤ r9.length + r10.length) (fun a => r9.length + r10.length - a.toNat) (fun t => t = .inr ()) rfl ⟨0, rfl, Nat.zero_le _⟩ (by show r9.length + r10.length - 0 < 1000; omega) (fun a ha => ?_) (fun t ht' => ?_))
  · obtain ⟨i, rfl, hi⟩ := ha
    refine .skip (.op () rfl (.skip (.op () rfl (.skip (.br (fun h => .skip (.op () rfl (.skip ?_))) (fun h => .skip (.done rfl rfl)))))))
    rw [ws] at h
    have hil : i < r9.length + r10.length := by have := of_decide_eq_true h; omega
    have nx : RoundAt (fun a => ∃ i : Nat, a = (i : Int) ∧ i ≤ r9.length + r10.length) (fun a => r9.length + r10.length - a.toNat) (fun (t : Unit ⊕ Unit) => t = .inr ()) (i : Int) (.inl (Go.IntKind.wrap .i64 ((i : Int) + 1))) := by
      rw [wr i (by omega)]
      exact ⟨⟨i + 1, rfl, hil⟩, by simp only [Int.toNat_natCast]; omega⟩
    refine .br (fun hp => ?_) (fun hp => ?_)
    · have hi9 : i < r9.length := by have := of_decide_eq_true hp; omega
      refine .skip (.op r9[i] (idx_at hi9) (.skip (.call _ (hasI_at r12 r9[i] (by omega)) fun b9 e9 => .skip (.br (fun hn => ?_) fun _ => .skip (.done rfl nx)))))
      exfalso
      subst e9
      simp only [Bool.not_eq_true', decide_eq_false_iff_not] at hn
      exact hn ((mem _).2 (.inl (List.getElem_mem hi9)))
    · have hi9 : r9.length ≤ i := by have := of_decide_eq_false hp; omega
      have hi10 : i - r9.length < r10.length := by omega
      have hw : Go.IntKind.wrap .i64 ((i : Int) - ((r9.length : Nat) : Int)) = ((i - r9.length : Nat) : Int) := by rw [wrap_i64 (by omega) (by omega)]; omega
      refine .skip (.op () rfl (.skip (.op r10[i - r9.length] (by rw [hw]; exact idx_at hi10) (.skip (.call _ (hasI_at r12 r10[i - r9.length] (by omega)) fun b9 e9 => .skip (.br (fun hn => ?_) fun _ => .skip (.done rfl nx)))))))
      exfalso
      subst e9
      simp only [Bool.not_eq_true', decide_eq_false_iff_not] at hn
      exact hn ((mem _).2 (.inr (List.getElem_mem hi10)))
  subst ht'
  obtain ⟨tg', pf', ht2, htl2, him2⟩ := imports_law r11 (Go.L.Route.mk r.N (Go.L.Attrs.mk r.A.Origin r.A.Path r.A.Next r.A.HasMed r.A.Med r.A.HasPref r.A.Pref r.A.HasOriginator r.A.Originator r.A.Clusters [] r.A.Tunnel) r.Peer r.Stale) (by omega) (Nat.zero_le _)
  obtain rfl : tg' = [] := List.length_eq_zero_iff.1 (Nat.le_zero.1 htl2)
  refine .skip (.callR _ (him2 r11 (by omega)) fun (r48 : List Int) h48 => .op () rfl (.skip ?_))
  obtain rfl := imps_nil h48
  refine .br (fun _ => .skip (.callR _ (him2 [] (Nat.zero_le _)) fun (r49 : List Int) h49 => ?_)) (fun h => absurd h (by decide))
  obtain rfl := imps_nil h49
  exact .op () rfl (.skip (.done rfl rfl))
end Go.L
/- PolicyImports: the imports of two lists together are those of the one and those of the other, ascending, none twice; without targets there are none; the card, tied to the program's text. No conditions. -/
namespace Go.L
open Go.AM
set_option maxRecDepth 100000
set_option linter.unusedVariables false
/-- A route of zeros. -/
def zeroV : Go.Value := .agg #[.int .i64 0, .int .u64 0, .int .u8 0, .int .u8 0, .int .u8 0, .int .u8 0, .int .u8 0, .int .u8 0, .int .u8 0, .int .u8 0, .int .u8 0, .int .u8 0, .int .u32 0, .int .u64 0, .int .u32 0, .bool false, .int .u32 0, .int .i64 0, .int .u32 0, .int .u32 0, .int .u32 0, .int .i64 0, .slice none 0 0, .int .u32 0, .bool false, .int .u32 0, .bool false, .int .u32 0, .bool false, .int .u32 0, .slice none 0 0, .slice none 0 0, .int .i64 0, .int .u32 0, .int .u32 0, .int .u32 0, .int .u32 0, .bool false]
theorem law_policyImports (l m : List Import) (r : Route) (h0 : ∀ a ∈ l, okImport a) (h1 : ∀ a ∈ m, okImport a) (h2 : okRoute r) :
    FnVal prog 3 [.lst (l.map eImport), .lst (m.map eImport), .agg (eRoute r)] (.ret (.sc (.bool true))) := by
  obtain ⟨b, hb, rfl⟩ := imports_run l m r
  exact c_law19_PolicyImports.ok 1000 (l, m, r) true hb
end Go.L
namespace Go.Proofs.YtpgpmlaafigpaaaGreatDoor.policyImports
open Go.ChangeShapes Go.WideShapes Go.ChangeAt Go.RowKit Go.AM Go.L
set_option linter.unusedVariables false

def kv : List Value := [(1, 0, 2), (2, 3, 12), (3, 6, 0), (4, 6, 1), (5, 6, 2), (6, 6, 3), (7, 6, 6)].flatMap fun (p : Int × Int × Int) => [.int .i64 p.1, .int .u8 p.2.1, .int .u8 p.2.2]
def kk : List Kd := (List.replicate 7 [.int .i64, .int .u8, .int .u8]).flatten
theorem globsOk {W : World} (h : laidMet Tryz.prog Rows.policyImportsRow.laid W) : GlobsOk (Gh.bare W) W := by
  refine globs_one (P := Tryz.prog) (name := "leafmesh/comm.kinds") (g := 0) (vs := kv) (by kernel_rfl) (laid_cells (g := 0) (t := 341) (ks := kk) (by kernel_rfl) (by kernel_rfl) (by kernel_rfl) (by kernel_rfl) h) (by kernel_rfl) fun i cs hi => ?_
  match i, hi with
  | 0, hi => exact ⟨rfl, (Option.some.inj hi).symm⟩
theorem own : ownKnob Tryz.prog.godebug = none := by kernel_rfl
theorem slices : ((List.range Tryz.prog.types.size).all fun t => match Tryz.prog.underlying t with | some (.slice e) => decide (0 < Tryz.prog.cellsOf e) | _ => true) = true := by kernel_rfl
theorem maps : mapsRowed Tryz.prog = true := by kernel_rfl
theorem inTable : (Tryz.f3.params.toList.all fun t => Nat.ble (t + 1) Tryz.prog.types.size) = true := by kernel_rfl
set_option maxRecDepth 100000 in
theorem contract (H : Type) (enc : TypeId × Value → H) (W : World) (base : Nat) (args : Array Value) (ds gs : List (DataW H)) (before : List MemPlace)
    (hval : ∀ (j : Nat) t v, Tryz.f3.params[j]? = some t → args[j]? = some v → Value.okWide Tryz.prog W .any base t v)
    (hW : DataW.Whole enc Tryz.prog Tryz.f3.params.toList Rows.policyImportsSpec.vars false W args.toList ds gs before) (hL : laidMetH Tryz.prog Rows.policyImportsRow.laid W) :
    Calls Tryz.prog 3 args W fun e W' => ∃ v, e = .returned v ∧ Rows.policyImportsSpec.post enc Tryz.prog Tryz.f3 false true false false W args v W' := by
  have hW' := hW
  have hlt := hW.lt
  obtain ⟨p, q, hA0, hV, rfl, hfz, hnd⟩ := hW
  have hA : DataW.TrodAll enc Tryz.prog W 0 (fun _ => true) true Tryz.f3.params.toList args.toList ds p := hA0
  clear hA0
  have hAll := hA
  rw [Tryz.params3] at hA hval
  obtain ⟨v0, r0, d0, e0, p0, q0, hv0, hd0, hp0, t0, hA⟩ := trodAll_cons hA
  obtain ⟨v1, r1, d1, e1, p1, q1, hv1, hd1, hp1, t1, hA⟩ := trodAll_cons hA
  obtain ⟨v2, r2, d2, e2, p2, q2, hv2, hd2, hp2, t2, hA⟩ := trodAll_cons hA
  obtain ⟨hr, hd, hq⟩ := trodAll_nil hA
  obtain rfl : args = #[v0, v1, v2] := by apply Array.ext'; simp only [hv0, hv1, hv2, hr]
  obtain rfl : ds = [d0, d1, d2] := by simp only [hd0, hd1, hd2, hd]
  obtain ⟨rfl, rfl⟩ := trodVars_none hV
  simp only [List.append_nil] at hW' hlt
  obtain ⟨a0, ok0, ra0⟩ := Rdb.cell (c := (cL eImport)) (Rdb.slice Tryz.underlying22 (by kernel_rfl) (by kernel_rfl) rdImport) (by kernel_rfl) (hval 0 _ _ rfl rfl) t0
  obtain ⟨a1, ok1, ra1⟩ := Rdb.cell (c := (cL eImport)) (Rdb.slice Tryz.underlying22 (by kernel_rfl) (by kernel_rfl) rdImport) (by kernel_rfl) (hval 1 _ _ rfl rfl) t1
  obtain ⟨a2, ok2, ra2⟩ := Rdb.agg rdRoute Tryz.underlying41 (hval 2 _ _ rfl rfl) t2
  refine (law_top (law_policyImports a0 a1 a2 ok0 ok1 ok2) W (globsOk hL) _ ⟨_, _, rfl, ra0, ⟨_, _, rfl, ra1, ⟨_, _, rfl, ra2, rfl⟩⟩⟩).mono fun e W' ⟨he, hg⟩ => ?_
  subst he
  exact ⟨_, rfl, post_of_below (pa := p) (pv := []) hW' (fun _ _ _ => (trodAll_cons_mk (shut_bool Tryz.underlying4 _) trodAll_mk0))
    (fun sp hsp => trodAll_kept laid maps (slices_full_of _ slices) hg (fun t ht => Nat.le_of_ble_eq_true (List.all_eq_true.1 inTable t ht)) hAll hlt hsp) (fun _ _ => rfl) (by simp)
    hg (ok_one (by kernel_rfl) rfl (okWide_bool_mk Tryz.underlying4 _))⟩

/-- A world for the witness: the settled one, the variable holding what its initialiser lays. -/
noncomputable def laidWorld (os : Os) : World :=
  { World.holding Tryz.prog os ⟨#[], #[.slice none 0 0, .slice none 0 0, zeroV], []⟩ with heap := (World.holding Tryz.prog os ⟨#[], #[.slice none 0 0, .slice none 0 0, zeroV], []⟩).heap.modify 0 fun
      | .cells _ t frozen => .cells kv.toArray t frozen
      | o => o }
theorem laid_met (os : Os) : laidMet Tryz.prog Rows.policyImportsRow.laid ((laidWorld os).forCall (fun _ _ => 0) ⟨#[], #[.slice none 0 0, .slice none 0 0, zeroV], []⟩).memory :=
  laidMet_of_run' 8 (by kernel_rfl) (by kernel_rfl)
theorem reads (os : Os) {H : Type} (enc : TypeId × Value → H) : ∃ x, DataW.whole enc Tryz.prog ((laidWorld os).forCall (fun _ _ => 0) ⟨#[], #[.slice none 0 0, .slice none 0 0, zeroV], []⟩).memory Tryz.f3.params.toList Rows.policyImportsSpec.vars false (#[.slice none 0 0, .slice none 0 0, zeroV] : Array Value).toList 8 = some x := by
  have h : (DataW.whole enc Tryz.prog ((laidWorld os).forCall (fun _ _ => 0) ⟨#[], #[.slice none 0 0, .slice none 0 0, zeroV], []⟩).memory Tryz.f3.params.toList Rows.policyImportsSpec.vars false (#[.slice none 0 0, .slice none 0 0, zeroV] : Array Value).toList 8).isSome = true := by kernel_rfl
  exact Option.isSome_iff_exists.1 h

set_option maxRecDepth 100000 in
theorem lifted (os : Os) (started : os.Started) (H : Type) (enc : TypeId × Value → H) (F : Stop.Interp) :
    ReturnsInHanded {} Tryz.checked os 3 .any ((OpenSpec.ofChange Rows.policyImportsSpec).preRow enc Tryz.prog Tryz.f3 Rows.policyImportsRow.domain false Rows.policyImportsRow.laid) (((OpenSpec.ofChange Rows.policyImportsSpec).at F).post enc Tryz.prog Tryz.f3 false true false false) := by
  obtain ⟨x, hx⟩ := reads os enc
  refine returnsInHanded_of_row (C := Tryz.checked) (s := OpenSpec.ofChange Rows.policyImportsSpec) own started (by kernel_rfl) Tryz.func3
    (witness_row_at (enc := enc) (C := Tryz.checked) false (laidWorld os) #[.slice none 0 0, .slice none 0 0, zeroV] rfl (by kernel_rfl) (by kernel_rfl) (by kernel_rfl)
      (OpenSpec.preRow_of_cond 8 hx (by kernel_rfl) (fun k hk => by cases hk) (by kernel_rfl) (laid_met os))) ?_
  intro W base args ds gs before hval hW _ _ _ hL _ _
  exact contract H enc W base args ds gs before hval hW hL

theorem said : Rows.PolicyImportsSaid :=
  OpenClaim.holds_of_cond 3 Tryz.f3 rfl rfl rfl rfl rfl rfl rfl ⟨rfl, rfl, rfl, rfl, rfl⟩ rfl rfl rfl rfl rfl (by kernel_rfl) Tryz.func3 closed
    (of_decide_eq_true (by kernel_rfl)) (by unfold Func.isWrapper; first | (rw [if_pos (by decide +kernel)]; kernel_rfl) | (rw [if_neg (by decide +kernel)]; exact ⟨rfl, rfl⟩))
    (fun os started H enc _ F => by rw [OpenClaim.pre_eq_preRow]; exact lifted os started H enc F)

theorem plain (f : FuncId) (fn : Func) (hf : Tryz.pinned.checked.prog.funcNamed Rows.policyImportsRow.func = some f) (hfn : Tryz.pinned.checked.prog.funcs[f]? = some fn) :
    true = Tryz.pinned.checked.prog.looks [] ∧ ∀ (j : Nat) t, fn.params[j]? = some t → Tryz.pinned.checked.prog.wantsStandIn t = false := by
  obtain rfl : f = 3 := Option.some.inj ((show Tryz.prog.funcNamed Rows.policyImportsRow.func = some 3 by kernel_rfl).symm.trans hf) |>.symm
  obtain rfl : fn = Tryz.f3 := (Option.some.inj (Tryz.func3.symm.trans hfn)).symm
  refine ⟨by kernel_rfl, fun j t ht => ?_⟩
  have := List.all_eq_true.1 noStand t (Array.mem_toList_iff.2 (Array.mem_of_getElem? ht))
  have h2 : Tryz.prog.wantsStandIn t = false := by simpa using this
  exact h2


theorem card : Rows.PolicyImportsCardSaid :=
  Claim7.holds_tied_plain_at .later [] _ _ _ _ said (fun _ h => by cases h) m1 (fun _ h => by cases h) policyImports_row_tie rfl ⟨rfl, rfl⟩ m2 rfl plain m3
end Go.Proofs.YtpgpmlaafigpaaaGreatDoor.policyImports
