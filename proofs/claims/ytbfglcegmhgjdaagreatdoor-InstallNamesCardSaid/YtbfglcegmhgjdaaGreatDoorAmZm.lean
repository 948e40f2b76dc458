/- A table of calls with memory that have been worked out. No program. -/
import Derived.Test.YtbfglcegmhgjdaaGreatDoorAmZ
namespace Go.AM

/-- An entry: the function, its arguments, the memory; its result, the memory behind it. -/
structure EntryM where
  f : FuncId
  args : List AVal
  H : List ABlk
  res : AVal
  H1 : List ABlk

def sameHs : List ABlk → List ABlk → Bool
  | [], [] => true
  | a :: as, b :: bs => sameBlk a b && sameHs as bs
  | _, _ => false
theorem sameHs_eq : ∀ {a b : List ABlk}, sameHs a b = true → a = b
  | [], [], _ => rfl
  | a :: as, b :: bs, h => by
    simp only [sameHs, Bool.and_eq_true] at h
    rw [sameBlk_eq h.1, sameHs_eq h.2]
  | [], _ :: _, h => by cases h
  | _ :: _, [], h => by cases h

def lookupM (f : FuncId) (args : List AVal) (H : List ABlk) : List EntryM → Option (AVal × List ABlk)
  | [] => none
  | e :: es => if e.f == f && (sameL e.args args && sameHs e.H H) then some (e.res, e.H1) else lookupM f args H es

def callM [Globs] (P : Program) (cfg : Cfg) (tbl : List Entry) (tbm : List EntryM) (loops : Nat) : Nat → Orc
  | 0 => ⟨fun _ _ _ => none, fun _ _ _ => none⟩
  | n + 1 => ⟨fun f args H => match (match H with | [] => (lookupT f args tbl).map fun r => (r, []) | _ :: _ => lookupM f args H tbm) with
    | some r => some (.ret r.1, r.2)
    | none => bodyOf P cfg (callM P cfg tbl tbm loops n) loops f args H, roundOf P cfg (callM P cfg tbl tbm loops n) loops⟩

section
set_option linter.unusedSectionVars false
variable [Globs] {P : Program} {cfg : Cfg}

def EntryMOk (P : Program) (e : EntryM) : Prop :=
  (∃ fn c, P.funcs[e.f]? = some fn ∧ fn.body = some c ∧ fn.name ≠ "runtime.NumGoroutine") ∧
  ∀ g w (vs : Array Value), Inv g e.H w → RL g w e.args vs.toList → Calls P e.f vs w (Comes1 g e.H w (.ret e.res) e.H1)

def TbmOk (P : Program) (tbm : List EntryM) : Prop := ∀ e ∈ tbm, EntryMOk P e

theorem TbmOk.nil : TbmOk P [] := fun _ h => by cases h
theorem TbmOk.cons {e : EntryM} {tbm : List EntryM} (h : EntryMOk P e) (h' : TbmOk P tbm) : TbmOk P (e :: tbm) := fun x hx => by
  rcases List.mem_cons.1 hx with rfl | hx
  · exact h
  · exact h' x hx

theorem lookupM_some {f : FuncId} {args : List AVal} {H : List ABlk} {r : AVal × List ABlk} : ∀ {tbm : List EntryM}, lookupM f args H tbm = some r → ∃ e ∈ tbm, e.f = f ∧ e.args = args ∧ e.H = H ∧ (e.res, e.H1) = r
  | [], h => by simp [lookupM] at h
  | e :: es, h => by
    simp only [lookupM] at h
    split at h
    · rename_i hc
      simp only [Bool.and_eq_true, beq_iff_eq] at hc
      simp only [Option.some.injEq] at h
      exact ⟨e, by simp, hc.1, sameL_eq _ _ hc.2.1, sameHs_eq hc.2.2, h⟩
    · obtain ⟨e', h1, h2⟩ := lookupM_some h
      exact ⟨e', List.mem_cons_of_mem _ h1, h2⟩

theorem callM_sound (hm : P.follows .mixedOrders = true) (hN : ∀ (f : FuncId) (fn : Func), P.funcs[f]? = some fn → fn.name ≠ "runtime.NumGoroutine") {tbl : List Entry} {tbm : List EntryM} (ht : TblOk P tbl) (htm : TbmOk P tbm) (loops : Nat) : ∀ n, OrcOk P (callM P cfg tbl tbm loops n)
  | 0 => ⟨fun _ _ _ _ _ h => by simp [callM] at h, fun _ _ _ _ _ h => by simp [callM] at h⟩
  | n + 1 => by
    refine ⟨fun f args H r H1 h => ?_, fun _ _ _ _ _ h => roundOf_sound hm (callM_sound hm hN ht htm loops n) h⟩
    simp only [callM] at h
    split at h
    · rename_i v hv
      simp only [Option.some.injEq, Prod.mk.injEq] at h
      obtain ⟨rfl, rfl⟩ := h
      cases H with
      | nil =>
        simp only [Option.map_eq_some_iff] at hv
        obtain ⟨u, hv, rfl⟩ := hv
        obtain ⟨e, he, rfl, rfl, rfl⟩ := lookupT_some hv
        exact ht e he
      | cons x xs =>
        obtain ⟨e, he, h1, h2, h3, rfl⟩ := lookupM_some hv
        have := htm e he
        unfold EntryMOk at this
        rw [h1, h2, h3] at this
        exact this
    · exact bodyOf_sound hm hN (callM_sound hm hN ht htm loops n) h

/-- Is the entry what a call gives, its result kept by content, the memory as it was? -/
def entryMB (orc : Orc) (e : EntryM) : Bool := match fzFin e.H (List.range e.H.length) (orc.fn e.f e.args e.H) with
  | some (.ok eff) => eff.upd.isEmpty && eff.news.isEmpty && same eff.val e.res && sameHs e.H e.H1
  | _ => false

theorem mask_all (H : List ABlk) : mask (List.range H.length) H = H := by
  apply List.ext_getElem?
  intro b
  by_cases hb : b < H.length
  · exact mask_in (by simpa using hb)
  · rw [List.getElem?_eq_none (by rw [mask_length]; simpa using hb), List.getElem?_eq_none (by simpa using hb)]

theorem entryM_ok {orc : Orc} (ho : OrcOk P orc) {e : EntryM} (h : entryMB orc e = true) : EntryMOk P e := by
  unfold entryMB at h
  split at h
  · rename_i eff hf
    simp only [Bool.and_eq_true, List.isEmpty_iff] at h
    obtain ⟨⟨⟨h1, h2⟩, h3⟩, h4⟩ := h
    have hv := same_eq _ _ h3
    have hH := sameHs_eq h4
    have happ : eff.apply e.H = e.H := by simp [Eff.apply, h1, h2]
    have key : ∃ r H1, orc.fn e.f e.args e.H = some (r, H1) := by
      cases hc : orc.fn e.f e.args e.H with
      | none => rw [hc] at hf; simp [fzFin, mergeFin] at hf
      | some p => exact ⟨p.1, p.2, rfl⟩
    obtain ⟨r, H1, hc⟩ := key
    obtain ⟨g1, g2⟩ := ho.fn _ _ _ _ _ hc
    refine ⟨g1, fun g w vs hi hl => (g2 g w vs hi hl).mono ?_⟩
    intro en w' hco
    rw [hc] at hf
    obtain ⟨r', H1', hrr, hp⟩ := fzFin_post hi hf
    simp only [Option.some.injEq, Prod.mk.injEq] at hrr
    obtain ⟨rfl, rfl⟩ := hrr
    rcases hp with ⟨eff', he, hp⟩ | ⟨v', he, _⟩
    · simp only [Fin.ok.injEq] at he
      subst he
      rw [mask_all] at hp
      obtain ⟨x, g', hx, q1, q2, q3⟩ := hp en w' hco
      rw [happ] at q1 q3
      rw [hv] at q2
      rw [← hH]
      exact ⟨g', q1, q3, x, hx, q2⟩
    · cases he
  · cases h

/-- Is the entry what a call gives? Of the memory behind it, 'keep' is told. -/
def entryRB (orc : Orc) (keep : List Nat) (e : EntryM) : Bool := match orc.fn e.f e.args e.H with
  | some (.ret v, H1) => same v e.res && sameHs (mask keep H1) e.H1
  | _ => false

theorem Later.masked {g g1 : Gh} {H H1 : List ABlk} {w w1 : World} (h : Later g H w g1 H1 w1) (ids : List Nat) : Later g H w g1 (mask ids H1) w1 := by
  refine ⟨h.ext, h.size, h.keep, fun k hk ho => ?_, by rw [mask_length]; exact h.len, h.os, h.tape, h.output, fun k o hk hs => ?_, fun b hb => ?_, h.newk⟩
  · exact h.own k hk (let ⟨b, x, v, z, q1, q2, q3⟩ := ho; by
      rcases mask_get q1 with ⟨_, q1⟩ | ⟨_, rfl, _⟩
      · exact ⟨b, x, v, z, q1, q2, q3⟩
      · cases q2)
  · rcases h.stk k o hk hs with h1 | ⟨h1, h2⟩
    · exact .inl h1
    · refine .inr ⟨h1, fun ho => h2 ?_⟩
      obtain ⟨b, x, v, z, q1, q2, q3⟩ := ho
      rcases mask_get q1 with ⟨_, q1⟩ | ⟨_, rfl, _⟩
      · exact ⟨b, x, v, z, q1, q2, q3⟩
      · cases q2
  · obtain ⟨h1, h2⟩ := h.deadk b hb
    refine ⟨?_, h2⟩
    have hlt : b < H1.length := (List.getElem?_eq_some_iff.1 h1).1
    cases hc : ids.contains b
    · exact mask_dead hc hlt
    · rw [mask_in hc]; exact h1

theorem entryR_ok {orc : Orc} (ho : OrcOk P orc) {keep : List Nat} {e : EntryM} (h : entryRB orc keep e = true) : EntryMOk P e := by
  unfold entryRB at h
  split at h
  · rename_i v H1 hc
    simp only [Bool.and_eq_true] at h
    have hv := same_eq _ _ h.1
    have hH := sameHs_eq h.2
    obtain ⟨g1, g2⟩ := ho.fn _ _ _ _ _ hc
    refine ⟨g1, fun g w vs hi hl => (g2 g w vs hi hl).mono ?_⟩
    rintro en w' ⟨g', hi', hla, hend⟩
    rw [← hH, ← hv]
    exact ⟨g', inv_mask hi' keep, hla.masked keep, hend⟩
  · cases h

end
end Go.AM
