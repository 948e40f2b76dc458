/- A table of calls that have been worked out. No program. -/
import Derived.Test.YtbfglcegmhgjdaaGreatDoorAmY
namespace Go.AM

/-- An entry: the function, its arguments by content, its result by content. -/
structure Entry where
  f : FuncId
  args : List AVal
  res : AVal

def lookupT (f : FuncId) (args : List AVal) : List Entry → Option AVal
  | [] => none
  | e :: es => if e.f == f && sameL e.args args then some e.res else lookupT f args es

def callT [Globs] (P : Program) (cfg : Cfg) (tbl : List Entry) (loops : Nat) : Nat → Orc
  | 0 => ⟨fun _ _ _ => none, fun _ _ _ => none⟩
  | n + 1 => ⟨fun f args H => match (match H with | [] => lookupT f args tbl | _ => none) with
    | some r => some (.ret r, [])
    | none => bodyOf P cfg (callT P cfg tbl loops n) loops f args H, roundOf P cfg (callT P cfg tbl loops n) loops⟩

section
set_option linter.unusedSectionVars false
variable [Globs] {P : Program} {cfg : Cfg}

def EntryOk (P : Program) (e : Entry) : Prop :=
  (∃ fn c, P.funcs[e.f]? = some fn ∧ fn.body = some c ∧ fn.name ≠ "runtime.NumGoroutine") ∧
  ∀ g w (vs : Array Value), Inv g [] w → RL g w e.args vs.toList → Calls P e.f vs w (Comes1 g [] w (.ret e.res) [])

def TblOk (P : Program) (tbl : List Entry) : Prop := ∀ e ∈ tbl, EntryOk P e

theorem TblOk.nil : TblOk P [] := fun _ h => by cases h
theorem TblOk.cons {e : Entry} {tbl : List Entry} (h : EntryOk P e) (h' : TblOk P tbl) : TblOk P (e :: tbl) := fun x hx => by
  rcases List.mem_cons.1 hx with rfl | hx
  · exact h
  · exact h' x hx

theorem lookupT_some {f : FuncId} {args : List AVal} {r : AVal} : ∀ {tbl : List Entry}, lookupT f args tbl = some r → ∃ e ∈ tbl, e.f = f ∧ e.args = args ∧ e.res = r
  | [], h => by simp [lookupT] at h
  | e :: es, h => by
    simp only [lookupT] at h
    split at h
    · rename_i hc
      simp only [Bool.and_eq_true, beq_iff_eq] at hc
      simp only [Option.some.injEq] at h
      exact ⟨e, by simp, hc.1, sameL_eq _ _ hc.2, h⟩
    · obtain ⟨e', h1, h2⟩ := lookupT_some h
      exact ⟨e', List.mem_cons_of_mem _ h1, h2⟩

theorem callT_sound (hm : P.follows .mixedOrders = true) (hN : ∀ (f : FuncId) (fn : Func), P.funcs[f]? = some fn → fn.name ≠ "runtime.NumGoroutine") {tbl : List Entry} (ht : TblOk P tbl) (loops : Nat) : ∀ n, OrcOk P (callT P cfg tbl loops n)
  | 0 => ⟨fun _ _ _ _ _ h => by simp [callT] at h, fun _ _ _ _ _ h => by simp [callT] at h⟩
  | n + 1 => by
    refine ⟨fun f args H r H1 h => ?_, fun _ _ _ _ _ h => roundOf_sound hm (callT_sound hm hN ht loops n) h⟩
    simp only [callT] at h
    split at h
    · rename_i v hv
      simp only [Option.some.injEq, Prod.mk.injEq] at h
      obtain ⟨rfl, rfl⟩ := h
      cases H with
      | nil =>
        obtain ⟨e, he, rfl, rfl, rfl⟩ := lookupT_some hv
        exact ht e he
      | cons x xs => cases hv
    · exact bodyOf_sound hm hN (callT_sound hm hN ht loops n) h

/-- Is the entry what a call gives? -/
def entryB (orc : Orc) (e : Entry) : Bool := match orc.fn e.f e.args [] with
  | some (.ret v, H1) => match (snap snapFuel v).run H1 with
    | some v' => same v' e.res
    | none => false
  | _ => false

theorem entry_ok {orc : Orc} (ho : OrcOk P orc) {e : Entry} (h : entryB orc e = true) : EntryOk P e := by
  unfold entryB at h
  split at h
  · rename_i v H1 hc
    split at h
    · rename_i v' hs
      have := same_eq _ _ h
      subst this
      obtain ⟨h1, h2⟩ := ho.fn _ _ _ _ _ hc
      refine ⟨h1, fun g w vs hi hl => (h2 g w vs hi hl).mono ?_⟩
      rintro en w' ⟨g', hi', hla, x, rfl, hr⟩
      obtain ⟨r1, r2⟩ := snap_sound hi' _ _ _ _ hs hr
      refine ⟨frz g' H1, hi'.frz, ⟨⟨fun b ver x hx => ?_, fun k o hk => .inl (hla.ext.st k o hk), hla.ext.cell, hla.ext.shape⟩, hla.size, hla.keep, fun k _ ho => absurd ho not_owned_nil, Nat.le_refl _, hla.os, hla.tape, hla.output, fun k o hk hst => ?_, fun b hb => by simp at hb, fun b ver k z h => by cases h⟩, x, rfl, r1⟩
      · rw [hi.fresh b ver (.inr (by simp))] at hx; cases hx
      · rcases hst with hst | hst
        · exact (hla.stk k o hk hst).imp_right fun h => absurd h.1 not_owned_nil
        · exact absurd (hla.own k hk hst) not_owned_nil
    · cases h
  · cases h

end
end Go.AM
