/- A table of calls that have been worked out. No program. -/
import Derived.Test.YtinkiagjomllfaaAmY
namespace Go.AM

def bytesSame : List UInt8 → List UInt8 → Bool
  | [], [] => true
  | a :: as, b :: bs => a.toNat == b.toNat && bytesSame as bs
  | _, _ => false
theorem bytesSame_eq : ∀ {a b : List UInt8}, bytesSame a b = true → a = b
  | [], [], _ => rfl
  | a :: as, b :: bs, h => by
    simp only [bytesSame, Bool.and_eq_true, beq_iff_eq] at h
    rw [UInt8.toNat_inj.1 h.1, bytesSame_eq h.2]
  | [], _ :: _, h => by simp [bytesSame] at h
  | _ :: _, [], h => by simp [bytesSame] at h

def vsame : Value → Value → Bool
  | .int k a, .int k' b => decide (k = k') && decide (a = b)
  | .bool a, .bool b => a == b
  | .string a, .string b => bytesSame a.data.toList b.data.toList
  | .nilIface, .nilIface => true
  | .nilFunc, .nilFunc => true
  | .slice none 0 0, .slice none 0 0 => true
  | .pointer none, .pointer none => true
  | .map none, .map none => true
  | .tuple a, .tuple b => a.size == 0 && b.size == 0
  | _, _ => false

theorem vsame_eq : ∀ {a b : Value}, vsame a b = true → a = b := by
  intro a b h
  unfold vsame at h
  split at h <;> try rfl
  · simp only [Bool.and_eq_true, decide_eq_true_eq] at h; obtain ⟨rfl, rfl⟩ := h; rfl
  · simp only [beq_iff_eq] at h; rw [h]
  · rename_i a b
    have := bytesSame_eq h
    obtain ⟨a⟩ := a; obtain ⟨b⟩ := b
    have : a = b := Array.toList_inj.1 this
    rw [this]
  · rename_i a b
    simp only [Bool.and_eq_true, beq_iff_eq] at h
    have h1 : a = #[] := by simpa using h.1
    have h2 : b = #[] := by simpa using h.2
    rw [h1, h2]
  · cases h

mutual
def same : AVal → AVal → Bool
  | .sc v, .sc u => vsame v u
  | .agg a, .agg b => sameL a b
  | .tup a, .tup b => sameL a b
  | .cptr a o, .cptr b o' => sameL a b && o == o'
  | .lst a, .lst b => sameLL a b
  | .fn (.func f) a b, .fn (.func f') a' b' => f == f' && sameL a a' && sameL b b'
  | .ifc t a, .ifc t' b => t == t' && same a b
  | .glob i o, .glob i' o' => i == i' && o == o'
  | .emp, .emp => true
  | .junk, .junk => true
  | _, _ => false
def sameL : List AVal → List AVal → Bool
  | [], [] => true
  | a :: as, b :: bs => same a b && sameL as bs
  | _, _ => false
def sameLL : List (List AVal) → List (List AVal) → Bool
  | [], [] => true
  | a :: as, b :: bs => sameL a b && sameLL as bs
  | _, _ => false
end

mutual
theorem same_eq : ∀ (a b : AVal), same a b = true → a = b
  | .sc v, b, h => by cases b <;> simp [same] at h; rw [vsame_eq h]
  | .agg x, b, h => by cases b <;> simp [same] at h; rw [sameL_eq _ _ h]
  | .tup x, b, h => by cases b <;> simp [same] at h; rw [sameL_eq _ _ h]
  | .ptr .., b, h => by cases b <;> simp [same] at h
  | .cptr x o, b, h => by cases b <;> simp [same] at h; rw [sameL_eq _ _ h.1, h.2]
  | .sl .., b, h => by cases b <;> simp [same] at h
  | .lst x, b, h => by cases b <;> simp [same] at h; rw [sameLL_eq _ _ h]
  | .fn f x y, b, h => by
    cases b with
    | fn g x' y' =>
      cases f <;> cases g <;> simp [same] at h
      obtain ⟨⟨h1, h2⟩, h3⟩ := h
      rw [h1, sameL_eq _ _ h2, sameL_eq _ _ h3]
    | _ => cases f <;> simp [same] at h
  | .ifc t x, b, h => by cases b <;> simp [same] at h; rw [h.1, same_eq _ _ h.2]
  | .mp _, b, h => by cases b <;> simp [same] at h
  | .yld _, b, h => by cases b <;> simp [same] at h
  | .sa .., b, h => by cases b <;> simp [same] at h
  | .glob i o, b, h => by cases b <;> simp [same] at h; rw [h.1, h.2]
  | .emp, b, h => by cases b <;> simp [same] at h; rfl
  | .junk, b, h => by cases b <;> simp [same] at h; rfl
theorem sameL_eq : ∀ (a b : List AVal), sameL a b = true → a = b
  | [], b, h => by cases b <;> simp [sameL] at h; rfl
  | a :: as, b, h => by cases b <;> simp [sameL] at h; rw [same_eq _ _ h.1, sameL_eq _ _ h.2]
theorem sameLL_eq : ∀ (a b : List (List AVal)), sameLL a b = true → a = b
  | [], b, h => by cases b <;> simp [sameLL] at h; rfl
  | a :: as, b, h => by cases b <;> simp [sameLL] at h; rw [sameL_eq _ _ h.1, sameLL_eq _ _ h.2]
end

/-- An entry: the function, its arguments by content, its result by content. -/
structure Entry where
  f : FuncId
  args : List AVal
  res : AVal

def lookupT (f : FuncId) (args : List AVal) : List Entry → Option AVal
  | [] => none
  | e :: es => if e.f == f && sameL e.args args then some e.res else lookupT f args es

def callT [Globs] (P : Program) (cfg : Cfg) (tbl : List Entry) (loops : Nat) : Nat → Orc
  | 0 => ⟨fun _ _ _ => none, fun _ _ _ => none⟩
  | n + 1 => ⟨fun f args H => match (match H with | [] => lookupT f args tbl | _ => none) with
    | some r => some (.ret r, [])
    | none => bodyOf P cfg (callT P cfg tbl loops n) loops f args H, roundOf P cfg (callT P cfg tbl loops n) loops⟩

section
set_option linter.unusedSectionVars false
variable [Globs] {P : Program} {cfg : Cfg}

def EntryOk (P : Program) (e : Entry) : Prop :=
  (∃ fn c, P.funcs[e.f]? = some fn ∧ fn.body = some c ∧ fn.name ≠ "runtime.NumGoroutine") ∧
  ∀ g w (vs : Array Value), Inv g [] w → RL g w e.args vs.toList → Calls P e.f vs w (Comes1 g [] w (.ret e.res) [])

def TblOk (P : Program) (tbl : List Entry) : Prop := ∀ e ∈ tbl, EntryOk P e

theorem TblOk.nil : TblOk P [] := fun _ h => by cases h
theorem TblOk.cons {e : Entry} {tbl : List Entry} (h : EntryOk P e) (h' : TblOk P tbl) : TblOk P (e :: tbl) := fun x hx => by
  rcases List.mem_cons.1 hx with rfl | hx
  · exact h
  · exact h' x hx

theorem lookupT_some {f : FuncId} {args : List AVal} {r : AVal} : ∀ {tbl : List Entry}, lookupT f args tbl = some r → ∃ e ∈ tbl, e.f = f ∧ e.args = args ∧ e.res = r
  | [], h => by simp [lookupT] at h
  | e :: es, h => by
    simp only [lookupT] at h
    split at h
    · rename_i hc
      simp only [Bool.and_eq_true, beq_iff_eq] at hc
      simp only [Option.some.injEq] at h
      exact ⟨e, by simp, hc.1, sameL_eq _ _ hc.2, h⟩
    · obtain ⟨e', h1, h2⟩ := lookupT_some h
      exact ⟨e', List.mem_cons_of_mem _ h1, h2⟩

theorem callT_sound (hm : P.follows .mixedOrders = true) (hN : ∀ (f : FuncId) (fn : Func), P.funcs[f]? = some fn → fn.name ≠ "runtime.NumGoroutine") {tbl : List Entry} (ht : TblOk P tbl) (loops : Nat) : ∀ n, OrcOk P (callT P cfg tbl loops n)
  | 0 => ⟨fun _ _ _ _ _ h => by simp [callT] at h, fun _ _ _ _ _ h => by simp [callT] at h⟩
  | n + 1 => by
    refine ⟨fun f args H r H1 h => ?_, fun _ _ _ _ _ h => roundOf_sound hm (callT_sound hm hN ht loops n) h⟩
    simp only [callT] at h
    split at h
    · rename_i v hv
      simp only [Option.some.injEq, Prod.mk.injEq] at h
      obtain ⟨rfl, rfl⟩ := h
      cases H with
      | nil =>
        obtain ⟨e, he, rfl, rfl, rfl⟩ := lookupT_some hv
        exact ht e he
      | cons x xs => cases hv
    · exact bodyOf_sound hm hN (callT_sound hm hN ht loops n) h

/-- Is the entry what a call gives? -/
def entryB (orc : Orc) (e : Entry) : Bool := match orc.fn e.f e.args [] with
  | some (.ret v, H1) => match (snap snapFuel v).run H1 with
    | some v' => same v' e.res
    | none => false
  | _ => false

theorem entry_ok {orc : Orc} (ho : OrcOk P orc) {e : Entry} (h : entryB orc e = true) : EntryOk P e := by
  unfold entryB at h
  split at h
  · rename_i v H1 hc
    split at h
    · rename_i v' hs
      have := same_eq _ _ h
      subst this
      obtain ⟨h1, h2⟩ := ho.fn _ _ _ _ _ hc
      refine ⟨h1, fun g w vs hi hl => (h2 g w vs hi hl).mono ?_⟩
      rintro en w' ⟨g', hi', hla, x, rfl, hr⟩
      obtain ⟨r1, r2⟩ := snap_sound hi' _ _ _ _ hs hr
      refine ⟨frz g' H1, hi'.frz, ⟨⟨fun b ver x hx => ?_, fun k o hk => .inl (hla.ext.st k o hk), hla.ext.cell, hla.ext.shape⟩, hla.size, hla.keep, fun k _ ho => absurd ho not_owned_nil, Nat.le_refl _, hla.os, hla.tape, hla.output, fun k o hk hst => ?_, fun b hb => by simp at hb, fun b ver k z h => by cases h⟩, x, rfl, r1⟩
      · rw [hi.fresh b ver (.inr (by simp))] at hx; cases hx
      · rcases hst with hst | hst
        · exact hla.stk k o hk hst
        · exact absurd (hla.own k hk hst) not_owned_nil
    · cases h
  · cases h

end
end Go.AM
