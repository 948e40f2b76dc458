/- A table of calls with memory, told for blocks 0, 1, .., found wherever these lie. No program. -/
import Derived.Test.YtbfglcegmhgjdaaGreatDoorAmZm
import Derived.Test.YtbfglcegmhgjdaaGreatDoorAmOb
namespace Go.AM

/-- An entry: the function, its arguments, the memory (blocks 0, 1, ..); its result, the memory behind it. -/
structure EntryP where
  f : FuncId
  args : List AVal
  H : List ABlk
  res : AVal
  H1 : List ABlk

/-- The blocks that are told. -/
def liveK {α : Type} : List ABlk → Nat → (List Nat → α) → α
  | [], _, k => k []
  | .dead :: xs, i, k => natF (i + 1) fun j => liveK xs j k
  | _ :: xs, i, k => natF (i + 1) fun j => liveK xs j fun bs => k (i :: bs)

theorem liveK_some {α : Type} : ∀ (H : List ABlk) (i : Nat) (k : List Nat → α), ∃ bs, liveK H i k = k bs
  | [], _, _ => ⟨[], rfl⟩
  | x :: xs, i, k => by
    cases x <;> simp only [liveK, natF_eq] <;>
      first
      | exact liveK_some xs (i + 1) k
      | exact let ⟨bs, h⟩ := liveK_some xs (i + 1) (fun bs => k (i :: bs)); ⟨i :: bs, h⟩

def lookupP (bs : List Nat) (n : Nat) (f : FuncId) (args : List AVal) (K : List ABlk) : List EntryP → Option (AVal × List ABlk)
  | [] => none
  | e :: es => if e.f == f && (placesB bs n e.H.length && (sameL (AVal.renL (outR bs n) e.args) args && sameHs (placeH bs [] n e.H) K))
    then some (e.res.ren (outR bs n), placeH bs [] n e.H1) else lookupP bs n f args K es

def callP [Globs] (P : Program) (cfg : Cfg) (tbl : List Entry) (tbp : List EntryP) (loops : Nat) : Nat → Orc
  | 0 => ⟨fun _ _ _ => none, fun _ _ _ => none⟩
  | n + 1 => ⟨fun f args H => match (match H with | [] => lookupT f args tbl | _ :: _ => none) with
    | some r => some (.ret r, [])
    | none => match (if tbp.any fun e => e.f == f then natF H.length fun l => liveK H 0 fun bs => lookupP bs l f args H tbp else none) with
      | some r => some (.ret r.1, r.2)
      | none => bodyOf P cfg (callP P cfg tbl tbp loops n) loops f args H, roundOf P cfg (callP P cfg tbl tbp loops n) loops⟩

section
set_option linter.unusedSectionVars false
variable [Globs] {P : Program} {cfg : Cfg}

def EntryPOk (P : Program) (e : EntryP) : Prop := FnRef P e.f e.args e.H (.ret e.res) e.H1 ∧ e.H.length ≤ e.H1.length

def TbpOk (P : Program) (tbp : List EntryP) : Prop := ∀ e ∈ tbp, EntryPOk P e

theorem TbpOk.nil : TbpOk P [] := fun _ h => by cases h
theorem TbpOk.cons {e : EntryP} {tbp : List EntryP} (h : EntryPOk P e) (h' : TbpOk P tbp) : TbpOk P (e :: tbp) := fun x hx => by
  rcases List.mem_cons.1 hx with rfl | hx
  · exact h
  · exact h' x hx

theorem PuOk_nil (H : List ABlk) : PuOk [] H := fun _ h => by cases h

theorem lookupP_some {bs : List Nat} {n : Nat} {f : FuncId} {args : List AVal} {K : List ABlk} {r : AVal × List ABlk} : ∀ {tbp : List EntryP}, TbpOk P tbp → lookupP bs n f args K tbp = some r → FnRef P f args K (.ret r.1) r.2
  | [], _, h => by simp [lookupP] at h
  | e :: es, ht, h => by
    simp only [lookupP] at h
    split at h
    · rename_i hc
      simp only [Bool.and_eq_true, beq_iff_eq] at hc
      simp only [Option.some.injEq] at h
      subst h
      obtain ⟨h1, h2⟩ := ht e (by simp)
      obtain ⟨rfl, hp, ha, hH⟩ := hc
      have := FnRef.place h1 (bs := bs) (pu := []) (puO := []) (n := n) hp h2 (PuOk_nil _) (PuOk_nil _) (fun v h => by cases h)
      rw [sameL_eq _ _ ha, sameHs_eq hH] at this
      exact this
    · exact lookupP_some (fun x hx => ht x (List.mem_cons_of_mem _ hx)) h

theorem callP_sound (hm : P.follows .mixedOrders = true) (hN : ∀ (f : FuncId) (fn : Func), P.funcs[f]? = some fn → fn.name ≠ "runtime.NumGoroutine") {tbl : List Entry} {tbp : List EntryP} (ht : TblOk P tbl) (htp : TbpOk P tbp) (loops : Nat) : ∀ n, OrcOk P (callP P cfg tbl tbp loops n)
  | 0 => ⟨fun _ _ _ _ _ h => by simp [callP] at h, fun _ _ _ _ _ h => by simp [callP] at h⟩
  | n + 1 => by
    refine ⟨fun f args H r H1 h => ?_, fun _ _ _ _ _ h => roundOf_sound hm (callP_sound hm hN ht htp loops n) h⟩
    simp only [callP] at h
    split at h
    · rename_i v hv
      simp only [Option.some.injEq, Prod.mk.injEq] at h
      obtain ⟨rfl, rfl⟩ := h
      cases H with
      | nil =>
        obtain ⟨e, he, rfl, rfl, rfl⟩ := lookupT_some hv
        exact ht e he
      | cons x xs => cases hv
    · split at h
      · rename_i v hv
        simp only [Option.some.injEq, Prod.mk.injEq] at h
        obtain ⟨rfl, rfl⟩ := h
        split at hv
        · simp only [natF_eq] at hv
          obtain ⟨bs, hb⟩ := liveK_some H 0 (fun bs => lookupP bs H.length f args H tbp)
          rw [hb] at hv
          exact lookupP_some htp hv
        · cases hv
      · exact bodyOf_sound hm hN (callP_sound hm hN ht htp loops n) h

/-- Is the entry what a call gives, its result kept by content, the memory as it was? -/
def entryPF (orc : Orc) (e : EntryP) : Bool := entryMB orc { f := e.f, args := e.args, H := e.H, res := e.res, H1 := e.H1 }

theorem entryPF_ok {orc : Orc} (ho : OrcOk P orc) {e : EntryP} (h : entryPF orc e = true) (hl : e.H.length ≤ e.H1.length) : EntryPOk P e :=
  ⟨entryM_ok ho h, hl⟩

def notDead : ABlk → Bool
  | .dead => false
  | _ => true

/-- Is the entry what a call gives? Of the new blocks behind it those of 'keep' are told, as they stand there. -/
def entryPR (orc : Orc) (keep : List Nat) (e : EntryP) : Bool := match orc.fn e.f e.args e.H with
  | some (.ret v, H1) => Nat.ble e.H.length e.H1.length && (e.H.all notDead && (keep.all (fun b => Nat.ble e.H.length b) && (placesB (List.range e.H.length ++ keep) H1.length e.H1.length &&
      (same (e.res.ren (outR (List.range e.H.length ++ keep) H1.length)) v && sameHs (placeH (List.range e.H.length ++ keep) [] H1.length e.H1) (mask (List.range e.H.length ++ keep) H1)))))
  | _ => false

theorem entryPR_ok {orc : Orc} (ho : OrcOk P orc) {keep : List Nat} {e : EntryP} (h : entryPR orc keep e = true) : EntryPOk P e := by
  unfold entryPR at h
  split at h
  · rename_i v H1 hc
    simp only [Bool.and_eq_true, List.all_eq_true, Nat.ble_eq] at h
    obtain ⟨hle, hnd, hk, hp, hv, hH⟩ := h
    have hv := same_eq _ _ hv
    have hH := sameHs_eq hH
    obtain ⟨g1, g2⟩ := ho.fn _ _ _ _ _ hc
    refine ⟨⟨g1, fun g w vs hi hl => (g2 g w vs hi hl).mono ?_⟩, hle⟩
    rintro en w' ⟨g', hi', hla, hend⟩
    obtain ⟨x, hx, hr⟩ := hend
    have hi2 := inv_mask hi' (List.range e.H.length ++ keep)
    have hla2 := hla.masked (List.range e.H.length ++ keep)
    rw [← hH] at hi2 hla2
    have hb0 : ∀ b, b < e.H.length → (List.range e.H.length ++ keep)[b]? = some b := fun b hb => by grind
    have hb1 : ∀ (j b : Nat), (List.range e.H.length ++ keep)[j]? = some b → b < e.H.length → b = j ∧ j < e.H.length := fun j b hj hb => by
      by_cases hj' : j < e.H.length
      · rw [hb0 j hj'] at hj; simp only [Option.some.injEq] at hj; exact ⟨hj.symm, hj'⟩
      · rw [List.getElem?_append_right (by simpa using hj')] at hj
        have := hk b (List.mem_of_getElem? hj)
        omega
    generalize List.range e.H.length ++ keep = bs at *
    generalize H1.length = n at *
    obtain ⟨hn, hlt, hm⟩ := placesB_inv hp
    have hinv : ∀ b v, ∃ b', outR bs n b v = some (b', v) ∧ inR bs n b' v = some (b, v) := fun b v => ⟨_, rfl, by simp [inR, back_fwd hn hlt]⟩
    have hK := placeH_get (pu := []) (H := e.H1) hlt (by omega)
    have hKf : ∀ j, (placeH bs [] n e.H1)[fwdB bs n j]? = (e.H1[j]?).map fun x => renBlk (outR bs n) (List.contains [] j) none x := fun j => by rw [hK, back_fwd hn hlt]
    have hKlen := placeH_length bs [] n e.H1
    generalize placeH bs [] n e.H1 = K at *
    let g'' : Gh := ⟨fun j v => g'.rho (fwdB bs n j) v, g'.st⟩
    have hi3 : Inv g'' e.H1 w' := by
      refine hi2.ren (f := inR bs n) ⟨rfl, fun b v b' v' x hr hx => ?_, fun j x' hx => ?_, fun j v hj => ?_, fun j x' v v' hx hv hlt' => ?_⟩
      · simp only [inR, Option.map_eq_some_iff, Prod.mk.injEq] at hr
        grind [fwdB, fwd_back]
      · by_cases hl : x'.live = none
        · exact .inl hl
        · obtain ⟨v, hv⟩ := Option.ne_none_iff_exists'.1 hl
          refine .inr ⟨fwdB bs n j, _, v, v, by rw [hKf, hx]; rfl, by rw [renBlk_live0]; exact hv, hv, by simp [inR, back_fwd hn hlt], rfl, renBlk_back hinv _ (fun hc => by simp at hc) hl⟩
      · show g'.rho (fwdB bs n j) v = none
        refine hi2.fresh _ _ ?_
        rcases hj with hj | hj
        · left; rw [hKf, hj]; rfl
        grind [fwdB]
      · exact hi2.next (fwdB bs n j) _ v v' (by rw [hKf, hx]; rfl) (by rw [renBlk_live0]; exact hv) hlt'
    have own1 : ∀ k, Owned g'' e.H1 k → Owned g' K k := by
      rintro k ⟨j, x, v, z, hx, hv, hk⟩
      exact ⟨fwdB bs n j, _, v, z, by rw [hKf, hx]; rfl, by rw [renBlk_live0]; exact hv, hk⟩
    have hfb : ∀ b, b < e.H.length → fwdB bs n b = b := fun b hb => by simp [fwdB, hb0 b hb]
    have hres : R g'' w' e.res x := by
      have := R_ren (g := g') (g' := g'') (f := inR bs n) (fun _ _ h => h) (fun b v b' v' x hr hx => by
        simp only [inR, Option.map_eq_some_iff, Prod.mk.injEq] at hr
        grind [fwdB, fwd_back]) _ _ hr
      rwa [← hv, ren_ren hinv] at this
    refine ⟨g'', hi3, ⟨⟨fun b v y hy => ?_, hla2.ext.st, hla2.ext.cell, hla2.ext.shape⟩, hla2.size, hla2.keep, fun k hk ho => hla2.own k hk (own1 k ho), hle, hla2.os, hla2.tape, hla2.output,
      fun k o hk hs => (hla2.stk k o hk hs).imp_right fun h => ⟨h.1, fun o => h.2 (own1 k o)⟩, fun b hb => ?_, fun b v k z hk' => ?_⟩, x, hx, hres⟩
    · have hbl : b < e.H.length := by
        rcases Nat.lt_or_ge b e.H.length with h | h
        · exact h
        · rw [hi.fresh b v (.inr h)] at hy; cases hy
      show g'.rho (fwdB bs n b) v = some y
      rw [hfb b hbl]
      exact hla2.ext.rho b v y hy
    · have := hnd _ (List.mem_of_getElem? hb)
      cases this
    · rcases hla2.newk (fwdB bs n b) v k z hk' with ⟨v1, z1, h1⟩ | h1
      · left
        have hbl : fwdB bs n b < e.H.length := by
          rcases Nat.lt_or_ge (fwdB bs n b) e.H.length with h | h
          · exact h
          · rw [hi.fresh _ v1 (.inr h)] at h1; cases h1
        have hbb : fwdB bs n b = b := by
          unfold fwdB at hbl ⊢
          split at hbl
          · rename_i b' hb'
            exact (hb1 b b' hb' hbl).1
          · have : e.H.length ≤ n := by rw [hm] at hKlen; have := hla2.len; omega
            omega
        rw [hbb] at h1
        exact ⟨v1, z1, h1⟩
      · exact .inr h1
  · cases h

end
end Go.AM
