/- Loops of plain programs as folds over lists. No program. -/
import Derived.Test.YtpgpmlaafigpaaaGreatDoorAmGd
import Derived.IntWalk
namespace Go.AM

/-- Element by element, with its index; a round may end it all. -/
def scan {α σ τ : Type} (g : Nat → α → σ → σ ⊕ τ) : Nat → List α → σ → σ ⊕ τ
  | _, [], s => .inl s
  | i, x :: xs, s => match g i x s with
    | .inl s' => scan g (i + 1) xs s'
    | .inr t => .inr t

theorem at?_nat {α : Type} (l : List α) (i : Nat) : at? l (i : Int) = l[i]? := by simp [at?]

theorem iterO_scan {α σ τ ST : Type} {f : ST → Option (ST ⊕ τ)} (mk : Nat → σ → ST) (g : Nat → α → σ → σ ⊕ τ) (fin : σ → τ) (l : List α)
    (hs : ∀ i x s, l[i]? = some x → f (mk i s) = some (match g i x s with | .inl s' => .inl (mk (i + 1) s') | .inr t => .inr t)) (he : ∀ s, f (mk l.length s) = some (.inr (fin s))) :
    ∀ (n : Nat) (s0 : σ), l.length < n → iterO f n (mk 0 s0) = some (match scan g 0 l s0 with | .inl s => fin s | .inr t => t) := by
  have key : ∀ (k : Nat) (i : Nat) (s : σ) (n : Nat), i + k = l.length → k < n → iterO f n (mk i s) = some (match scan g i (l.drop i) s with | .inl s => fin s | .inr t => t) := by
    intro k
    induction k with
    | zero =>
      intro i s n hi hn
      obtain ⟨n, rfl⟩ : ∃ m, n = m + 1 := ⟨n - 1, by omega⟩
      have : i = l.length := by omega
      subst this
      simp only [iterO, he, List.drop_length, scan]
    | succ k ih =>
      intro i s n hi hn
      obtain ⟨n, rfl⟩ : ∃ m, n = m + 1 := ⟨n - 1, by omega⟩
      have hlt : i < l.length := by omega
      rw [List.drop_eq_getElem_cons hlt]
      simp only [iterO, scan, hs i _ s (List.getElem?_eq_getElem hlt)]
      cases g i l[i] s with
      | inl s' => simp only; exact ih (i + 1) s' n (by omega) (by omega)
      | inr t => rfl
  intro n s0 hn
  have := key l.length 0 s0 n (by omega) hn
  simpa using this

theorem wrap_i64 {x : Int} (h1 : -9223372036854775808 ≤ x) (h2 : x ≤ 9223372036854775807) : Go.IntKind.wrap .i64 x = x := by
  rw [Go.IntKind.wrap_i64]
  omega

theorem wrap_nat {i : Nat} (h : i < 9223372036854775807) : Go.IntKind.wrap .i64 ((i : Int) + 1) = ((i + 1 : Nat) : Int) := by
  rw [wrap_i64 (by omega) (by omega)]; rfl

theorem emod_tmod {x k : Int} (hk : 0 < k) : (x.tmod k + k).tmod k = x % k := by
  have h1 : -k < x.tmod k := Int.lt_tmod_of_pos x hk
  have h2 := Int.tmod_add_mul_tdiv x k
  rw [Int.tmod_eq_emod_of_nonneg (by omega)]
  have : x.tmod k + k = x + k * (1 - x.tdiv k) := by
    rw [Int.mul_sub, Int.mul_one]; omega
  rw [this, Int.add_mul_emod_self_left]
theorem wrap_tmod {x k : Int} (hk : 0 < k) (hk2 : k ≤ 4000000000000000000) : Go.IntKind.wrap .i64 (x.tmod k + k) = x.tmod k + k := by
  have h1 : -k < x.tmod k := Int.lt_tmod_of_pos x hk
  have h2 := Int.tmod_lt_of_pos x hk
  exact wrap_i64 (by omega) (by omega)

/-- A scan that ends at the first element that makes it end, and keeps nothing. -/
theorem scan_unit {α τ : Type} (g : Nat → α → Unit ⊕ τ) : ∀ (l : List α) (i : Nat), (match scan (fun i x (_ : Unit) => g i x) i l () with | .inl _ => none | .inr t => some t) = (l.zipIdx i).findSome? fun p => (g p.2 p.1).getRight?
  | [], _ => rfl
  | x :: xs, i => by
    simp only [scan, List.zipIdx_cons, List.findSome?_cons]
    cases h : g i x with
    | inl u => cases u; simp only [Sum.getRight?]; exact scan_unit g xs (i + 1)
    | inr t => rfl

end Go.AM

namespace Go.AM
section
variable {X K V β : Type}
theorem lenO_bind (l : List X) (e : X → List AVal) (k : Unit → Option β) : (lenO l e).run.bind k = k () := rfl
theorem idxO_bind (l : List X) (e : X → List AVal) (n : Nat) (i : Int) (k : X → Option β) : (idxO l e n i).run.bind k = (at? l i).bind k := rfl
theorem mgetO_bind (m : List (K × V)) (q : K) (ek : K → AVal) (ev : V → AVal) (eq : K → K → Bool) (d : V) (ks : List Kd) (ag ok : Bool) (b : Nat) (k : Unit → Option β) : (mgetO m q ek ev eq d ks ag ok b).run.bind k = k () := rfl
theorem msetO_bind (m : List (K × V)) (q : K) (v : V) (ek : K → AVal) (ev : V → AVal) (eq : K → K → Bool) (ks : List Kd) (ag : Bool) (b : Nat) (k : Unit → Option β) : (msetO m q v ek ev eq ks ag b).run.bind k = k () := rfl
theorem mksO_bind (d : X) (e : X → List AVal) (n by_ nid : Nat) (i : Int) (k : Unit → Option β) : (mksO d e n by_ nid i).run.bind k = if 0 ≤ i ∧ roomy i.toNat by_ = true then k () else none := by
  show (if 0 ≤ i ∧ roomy i.toNat by_ = true then some () else none).bind k = _
  split <;> rfl
theorem idxS_bind (m n b ver : Nat) (i : Int) (k : Unit → Option β) : (idxS m n b ver i).run.bind k = if 0 ≤ i ∧ i < m then k () else none := by
  show (if 0 ≤ i ∧ i < m then some () else none).bind k = _
  split <;> rfl
theorem ldO_bind (l : List X) (e : X → List AVal) (n b ver i o : Nat) (val : X → AVal) (k : X → Option β) : (ldO l e n b ver i o val).run.bind k = (l[i]?).bind k := rfl
theorem appO_bind (len : Nat) (l m : List X) (e : X → List AVal) (n by_ b ver nid : Nat) (ids : List Nat) (k : Unit → Option β) : (appO len l m e n by_ b ver nid ids).run.bind k = if len = l.length ∧ roomy (l.length + m.length) by_ = true then k () else none := by
  show (if len = l.length ∧ roomy (l.length + m.length) by_ = true then some () else none).bind k = _
  split <;> rfl
end
end Go.AM
