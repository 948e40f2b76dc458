/- A region of the machine does what the abstract machine's does. No program. -/
import Derived.Test.YtbfglcegmhgjdaaGreatDoorAmS
namespace Go.AM

/-- Places. -/
inductive Loc where
  | reg (t : Nat)
  | blk (b : Nat)
  | rest

inductive LVal where
  | a (x : Option AVal)
  | b (x : Option ABlk)
  | t (l : List ABlk)
  | r (n : Nat) (D : List DefA)

def look (n0 : Nat) (s : St) : Loc → LVal
  | .reg t => .a s.A[t]?
  | .blk b => if b < n0 then .b s.H[b]? else .t (s.H.drop n0)
  | .rest => .r s.A.length s.D

def RdL (ops : Array Oper) (n0 : Nat) (o : Oper) (f : Foot) : Loc → Prop
  | .reg t => t ∈ o.looksAt ops
  | .blk b => (if b < n0 then b else n0) ∈ f.reads
  | .rest => True

def WL (n0 : Nat) (o : Oper) (f : Foot) : Loc → Prop
  | .reg t => o.dst = some t
  | .blk b => (if b < n0 then b else n0) ∈ f.writes
  | .rest => False

theorem cut_cut (n0 b : Nat) : (if cut n0 b < n0 then cut n0 b else n0) = cut n0 b := by
  grind [cut]

theorem look_ext {n0 : Nat} {s s' : St} (h : ∀ l, look n0 s l = look n0 s' l) : s = s' := by
  obtain ⟨A, H, D⟩ := s
  obtain ⟨A', H', D'⟩ := s'
  have hr := h .rest
  simp only [look, LVal.r.injEq] at hr
  obtain ⟨_, rfl⟩ := hr
  have hA : A = A' := by
    apply List.ext_getElem?
    intro i
    have := h (.reg i)
    simpa [look] using this
  have hH : H = H' := by
    have ht := h (.blk n0)
    simp only [look, Nat.lt_irrefl, if_false, LVal.t.injEq] at ht
    apply List.ext_getElem?
    intro i
    by_cases hi : i < n0
    · have := h (.blk i)
      simpa [look, hi] using this
    · have h1 : H[i]? = (H.drop n0)[i - n0]? := by rw [List.getElem?_drop]; congr 1; omega
      grind
  subst hA; subst hH; rfl

section
set_option linter.unusedSectionVars false
variable [Globs] {P : Program} {cfg : Cfg} {orc : Orc} {ops : Array Oper} {n0 nid : Nat} {o : Oper} {s s2 : St}

theorem look_blk {b : Nat} (h : look n0 s2 (.blk (cut n0 b)) = look n0 s (.blk (cut n0 b))) : s2.H[b]? = s.H[b]? := by
  unfold cut at h
  by_cases hb : b < n0
  · simpa [look, hb] using h
  · simp only [hb, if_false, look, Nat.lt_irrefl, LVal.t.injEq] at h
    have h1 : s.H[b]? = (s.H.drop n0)[b - n0]? := by rw [List.getElem?_drop]; congr 1; omega
    grind

theorem look_len (h : look n0 s2 (.blk n0) = look n0 s (.blk n0)) (h1 : n0 ≤ s.H.length) (h2 : n0 ≤ s2.H.length) : s2.H.length = s.H.length := by
  simp only [look, Nat.lt_irrefl, if_false, LVal.t.injEq] at h
  have := congrArg List.length h
  grind

theorem mask_congr {ids : List Nat} {H H' : List ABlk} (hl : H'.length = H.length) (h : ∀ b ∈ ids, H'[b]? = H[b]?) : mask ids H' = mask ids H := by
  apply List.ext_getElem?
  grind [mask_dead, mask_length, mask_in]

/-- The blocks that a call comes to. -/
def Pre.ids : Pre → List Nat
  | .byRef _ _ ids => ids
  | .byFz _ _ ids => ids
  | .round _ _ ids => ids
  | _ => []

theorem mergeFin_len {H H' : List ABlk} {ids : List Nat} {res : Option (ARes × List ABlk)} (h : H'.length = H.length) : mergeFin H' ids res = mergeFin H ids res := by
  unfold mergeFin
  rw [h]

theorem finish_local {pre : Pre} {H H' : List ABlk} (h : byRefs pre = true → H'.length = H.length) (hb : ∀ b ∈ pre.ids, H'[b]? = H[b]?) : finish orc H' pre = finish orc H pre := by
  cases pre with
  | eff e => rfl
  | byVal f args own => rfl
  | byRef f args ids =>
    have hl := h rfl
    have hm := mask_congr (ids := ids) hl hb
    simp only [finish, avsF_eq, headsF_eq, hm, mergeFin_len hl]
  | byFz f args ids =>
    have hl := h rfl
    have hm := mask_congr (ids := ids) hl hb
    have hz : ∀ res, fzFin H' ids res = fzFin H ids res := fun res => by
      have hfl : ∀ H1 : List ABlk, (ids.filter fun i => !sameBlk (H'.getD i .dead) (H1.getD i .dead)) = ids.filter fun i => !sameBlk (H.getD i .dead) (H1.getD i .dead) := fun H1 =>
        List.filter_congr fun i hi => by rw [List.getD_eq_getElem?_getD, List.getD_eq_getElem?_getD, hb i hi, ← List.getD_eq_getElem?_getD]
      unfold fzFin
      rw [hl]
      split
      · simp only [hfl]
      · exact mergeFin_len hl
    simp only [finish, avsF_eq, headsF_eq, hm, hz]
  | round b args ids =>
    have hl := h rfl
    have hm := mask_congr (ids := ids) hl hb
    simp only [finish, avsF_eq, headsF_eq, hm, mergeFin_len hl]
  | defer f args => rfl
  | pan v => rfl

theorem extA_eff {H : List ABlk} {fn : Func} {args : List AVal} {pre : Pre} (h : (extA fn args).run H = some pre) : ∃ e, pre = .eff e := by
  unfold extA at h
  split at h
  · split at h
    · obtain ⟨ra, ha, h⟩ := bind_some h
      obtain ⟨rb, hb2, h⟩ := bind_some h
      grind [Rd.run]
    · simp [Rd.run] at h
  · simp [Rd.run] at h

theorem extA_ids {H : List ABlk} {fn : Func} {args : List AVal} {pre : Pre} (h : (extA fn args).run H = some pre) : pre.ids = [] := by
  obtain ⟨e, rfl⟩ := extA_eff h
  rfl

theorem opPre_ids {H : List ABlk} {rho : Operand → AVal} {op : Op} {pre : Pre} (h : (opPre P cfg nid rho op).run H = some pre) :
    ∀ b ∈ pre.ids, b ∈ (opPre P cfg nid rho op).reads H := by
  intro b hb
  rcases opPre_cases h with ⟨e, rfl, _⟩ | ⟨fo, args', tys, n, p, q, rfl, hf, hc, hpre⟩ | ⟨fo, args', tys, n, p, q, hop, hf, rfl⟩ | ⟨x, t, u, hop, hx, hfl, rfl⟩ | ⟨fo, args', tys, b', ids', rfl, hf, rfl⟩ | ⟨fo, args', tys, n, p, q, fnx, rfl, hf, hfx, hbx, hcx⟩
  · cases hb
  · rw [hpre]
    unfold callPre at hc ⊢
    split at hc
    · obtain ⟨x, _, h2⟩ := bind_some hc
      simp only [Rd.run, Option.some.injEq] at h2
      subst h2
      cases hb
    · rename_i hv
      rw [if_neg hv]
      obtain ⟨ids', h1, h2⟩ := bind_some hc
      simp only [Rd.run, Option.some.injEq] at h2
      subst h2
      rw [reads_bind h1]
      have hb' : b ∈ ids' := by split at hb <;> exact hb
      rcases closure_reads _ _ _ _ h1 b hb' with hm | hm
      · cases hm
      · exact List.mem_append.2 (.inl hm)
  · cases hb
  · cases hb
  · simp only [opPre, hf] at h ⊢
    obtain ⟨ids2, h1, h2⟩ := bind_some h
    simp only [Rd.run, Option.some.injEq, Pre.round.injEq] at h2
    obtain ⟨-, -, rfl⟩ := h2
    rw [reads_bind h1]
    rcases closure_reads _ _ _ _ h1 b hb with hm | hm
    · cases hm
    · exact List.mem_append.2 (.inl hm)
  · rw [extA_ids hcx] at hb; cases hb

/-- What the operation comes to, from what it looks at. -/
theorem pre_local {pre : Pre} {f : Foot} {upd : List Nat} {news : Bool} (hl : n0 ≤ s.H.length) (hl2 : n0 ≤ s2.H.length)
    (hpre : (opPre P cfg nid (evalA s.A) o.op).run s.H = some pre) (hfoot : f = footOf n0 ((opPre P cfg nid (evalA s.A) o.op).reads s.H) pre upd news)
    (h : ∀ l, RdL ops n0 o f l → look n0 s2 l = look n0 s l) :
    opPre P cfg nid (evalA s2.A) o.op = opPre P cfg nid (evalA s.A) o.op ∧ (opPre P cfg nid (evalA s.A) o.op).run s2.H = some pre ∧
    (opPre P cfg nid (evalA s.A) o.op).reads s2.H = (opPre P cfg nid (evalA s.A) o.op).reads s.H ∧ finish orc s2.H pre = finish orc s.H pre := by
  have hA : ∀ t ∈ o.looksAt ops, s2.A[t]? = s.A[t]? := fun t ht => by
    have := h (.reg t) ht
    simpa [look] using this
  have hcongr : opPre P cfg nid (evalA s2.A) o.op = opPre P cfg nid (evalA s.A) o.op := by
    refine opPre_congr fun x hx => ?_
    cases x with
    | tmp t =>
      have := hA t (List.mem_append_left _ (List.mem_filterMap.2 ⟨.tmp t, by simpa using hx, rfl⟩))
      grind [evalA]
    | _ => rfl
  have hH : ∀ b ∈ (opPre P cfg nid (evalA s.A) o.op).reads s.H, s2.H[b]? = s.H[b]? := fun b hb =>
    look_blk (h (.blk (cut n0 b)) (by grind [RdL, footOf, cut_cut]))
  obtain ⟨r1, r2⟩ := run_local _ hH
  refine ⟨hcongr, r1.trans hpre, r2, finish_local (fun hb => ?_) fun b hb => ?_⟩
  · refine look_len (h (.blk n0) ?_) hl hl2
    grind [RdL, footOf]
  · exact hH b (opPre_ids hpre b hb)

theorem wanted_local (h : ∀ t ∈ o.looksAt ops, s2.A[t]? = s.A[t]?) : wantedA ops s2.A o = wantedA ops s.A o := by
  unfold wantedA
  cases hg : o.guard with
  | none => rfl
  | some jw =>
    obtain ⟨j, want⟩ := jw
    simp only
    cases hd : (ops[j]?).bind (·.dst) with
    | none => rfl
    | some d =>
      have := h d (List.mem_append_right _ (by rw [hg]; simp [hd]))
      simp only [this]

theorem putF_eq {α : Type} (A : List AVal) (d : Option Tmp) (v : AVal) (k : List AVal → α) : putF A d v k = k (putA A d v) := by
  cases d <;> simp [putF, putA, setF_eq]

theorem putA_len (A : List AVal) (d : Option Tmp) (v : AVal) : (putA A d v).length = A.length := by
  cases d <;> simp [putA]

theorem putA_not {A : List AVal} {d : Option Tmp} {v : AVal} {t : Nat} (h : d ≠ some t) : (putA A d v)[t]? = A[t]? := by
  cases d with
  | none => rfl
  | some d => grind [putA]

theorem putA_in {A A' : List AVal} {d : Option Tmp} {v : AVal} {t : Nat} (h : d = some t) (hl : A'.length = A.length) : (putA A' d v)[t]? = (putA A d v)[t]? := by
  grind [putA]

/-- An operation that goes well goes well in any state that looks alike. -/
theorem step_local {s1 : St} {f : Foot} (hl : n0 ≤ s.H.length) (hl2 : n0 ≤ s2.H.length) (hd : ∀ c, o.op ≠ .defer c) (h : stepOp P cfg orc ops n0 o nid s = some (.ok s1, f))
    (hloc : ∀ l, RdL ops n0 o f l → look n0 s2 l = look n0 s l) :
    n0 ≤ s1.H.length ∧ ∃ s3, stepOp P cfg orc ops n0 o nid s2 = some (.ok s3, f) ∧ n0 ≤ s3.H.length ∧ (∀ l, WL n0 o f l → look n0 s3 l = look n0 s1 l) ∧ (∀ l, ¬ WL n0 o f l → look n0 s3 l = look n0 s2 l) := by
  have hA : ∀ t ∈ o.looksAt ops, s2.A[t]? = s.A[t]? := fun t ht => by
    have := hloc (.reg t) ht
    simpa [look] using this
  have hrest : s2.A.length = s.A.length ∧ s2.D = s.D := by
    have := hloc .rest trivial
    simpa [look] using this
  have hw := wanted_local (ops := ops) (o := o) hA
  unfold stepOp at h ⊢
  rw [hw]
  dsimp only at h ⊢
  split at h
  · cases h
  · rename_i hwf
    rw [putF_eq] at h
    simp only [Option.some.injEq, Prod.mk.injEq, OpRes.ok.injEq] at h
    obtain ⟨rfl, rfl⟩ := h
    refine ⟨hl, ⟨putA s2.A o.dst nothing, s2.H, s2.D⟩, by rw [putF_eq], hl2, fun l hWl => ?_, fun l hWl => ?_⟩
    · cases l with
      | reg t => grind [WL, look, putA_in]
      | blk b => simp [WL] at hWl
      | rest => exact hWl.elim
    · cases l with
      | reg t => grind [WL, look, putA_not]
      | blk b => rfl
      | rest => simp only [look, putA_len]
  · rename_i hwt
    split at h
    · cases h
    · rename_i pre hpre
      split at h
      · cases h
      · simp at h
      · rename_i e hfin
        rw [effF_eq, putF_eq, applyF_eq] at h
        simp only [Option.some.injEq, Prod.mk.injEq, OpRes.ok.injEq] at h
        obtain ⟨rfl, hf⟩ := h
        obtain ⟨p1, p2, p3, p4⟩ := pre_local (orc := orc) (ops := ops) hl hl2 hpre hf.symm hloc
        rw [p1, p2]
        dsimp only
        rw [p4, hfin]
        dsimp only
        have hlen : ∀ (s : St), (e.apply s.H).length = s.H.length + e.news.length := fun s => by
          have := updL_len e.upd s.H
          grind [updL, Eff.apply]
        refine ⟨by grind, ⟨putA s2.A o.dst e.val, e.apply s2.H, s2.D⟩, ?_, by grind, fun l hWl => ?_, fun l hWl => ?_⟩
        · rw [effF_eq, putF_eq, applyF_eq, p3, hf]
        · cases l with
          | reg t => grind [WL, look, putA_in]
          | blk b =>
            simp only [WL] at hWl
            by_cases hb : b < n0
            · rw [if_pos hb, ← hf] at hWl
              simp only [look, hb, if_true, LVal.b.injEq]
              have hu : b ∈ e.upd.map (·.1) := by
                simp only [footOf, List.mem_append, List.mem_map] at hWl
                rcases hWl with ⟨c, hc, he⟩ | hc
                · grind [cut]
                · split at hc <;> simp at hc; omega
              have h1 := updL_len e.upd s2.H
              have h2 := updL_len e.upd s.H
              simp only [Eff.apply]
              rw [List.getElem?_append_left (by simp only [updL] at h1; omega), List.getElem?_append_left (by simp only [updL] at h2; omega)]
              exact updL_in e.upd s2.H s.H (by omega) (by omega) hu
            · rw [if_neg hb, ← hf] at hWl
              simp only [look, hb, if_false, LVal.t.injEq]
              have htail : look n0 s2 (.blk n0) = look n0 s (.blk n0) := hloc (.blk n0) (by
                grind [RdL, footOf])
              have hll := look_len htail hl hl2
              apply List.ext_getElem?
              intro i
              rw [List.getElem?_drop, List.getElem?_drop]
              have hsame : s2.H[n0 + i]? = s.H[n0 + i]? := look_blk (n0 := n0) (b := n0 + i) (by grind [cut])
              have h1 := updL_len e.upd s2.H
              have h2 := updL_len e.upd s.H
              simp only [Eff.apply]
              by_cases hi : n0 + i < s.H.length
              · rw [List.getElem?_append_left (by simp only [updL] at h1; omega), List.getElem?_append_left (by simp only [updL] at h2; omega)]
                exact updL_same e.upd _ _ hsame
              grind [updL]
          | rest => exact hWl.elim
        · cases l with
          | reg t => grind [WL, look, putA_not]
          | blk b =>
            simp only [WL] at hWl
            by_cases hb : b < n0
            · rw [if_pos hb, ← hf] at hWl
              simp only [look, hb, if_true, LVal.b.injEq]
              have hu : b ∉ e.upd.map (·.1) := fun hu => hWl (by
                grind [footOf, cut])
              have h1 := updL_len e.upd s2.H
              simp only [Eff.apply]
              rw [List.getElem?_append_left (by simp only [updL] at h1; omega)]
              exact updL_not e.upd s2.H hu
            · rw [if_neg hb, ← hf] at hWl
              simp only [look, hb, if_false, LVal.t.injEq]
              simp only [footOf, List.mem_append, not_or] at hWl
              have hnews : e.news = [] := by
                have := hWl.2
                cases hn : e.news with
                | nil => rfl
                | cons x xs => rw [hn] at this; simp at this
              have hu : ∀ i, n0 + i ∉ e.upd.map (·.1) := fun i hu => hWl.1 (List.mem_map.2 ⟨n0 + i, hu, by unfold cut; rw [if_neg (by omega)]⟩)
              apply List.ext_getElem?
              intro i
              rw [List.getElem?_drop, List.getElem?_drop]
              simp only [Eff.apply, hnews, List.append_nil]
              exact updL_not e.upd s2.H (hu i)
          | rest => simp only [look, putA_len]
      · rename_i fd args hfin
        exfalso
        rcases opPre_cases hpre with ⟨e', rfl, hop, hal⟩ | ⟨fo, args, tys, n, p, q, hop, hf, hc, hceq⟩ | ⟨fo, args, tys, n, p, q, hop, hf, rfl⟩ | ⟨x, t, u, hop, hx, hfl, rfl⟩ | ⟨fo, args, tys, b, ids', hop, hf, rfl⟩ | ⟨fo, args, tys, n, p, q, fnx, hop, hf, hfx, hbx, hcx⟩
        · simp [finish] at hfin
        · unfold callPre at hc
          split at hc
          · obtain ⟨args2, h1, h2⟩ := bind_some hc
            grind [Rd.run, finish, avsF_eq]
          · obtain ⟨ids', h1, h2⟩ := bind_some hc
            simp only [Rd.run, Option.some.injEq] at h2
            subst h2
            exact finAny_not hfin
        · exact hd _ hop
        · simp [finish] at hfin
        · grind [finish, avsF_eq, headsF_eq, mergeFin_not]
        grind [extA_eff, finish]

/-- An operation that panics and writes nothing panics in any state that looks alike. -/
theorem step_local_pan {s1 : St} {v : AVal} {f : Foot} (hl : n0 ≤ s.H.length) (hl2 : n0 ≤ s2.H.length) (h : stepOp P cfg orc ops n0 o nid s = some (.pan v s1, f)) (hfw : f.writes = [])
    (hloc : ∀ l, RdL ops n0 o f l → look n0 s2 l = look n0 s l) :
    s1 = s ∧ stepOp P cfg orc ops n0 o nid s2 = some (.pan v s2, f) := by
  have hA : ∀ t ∈ o.looksAt ops, s2.A[t]? = s.A[t]? := fun t ht => by
    have := hloc (.reg t) ht
    simpa [look] using this
  have hw := wanted_local (ops := ops) (o := o) hA
  unfold stepOp at h ⊢
  rw [hw]
  dsimp only at h ⊢
  split at h
  · cases h
  · rw [putF_eq] at h
    simp at h
  · split at h
    · cases h
    · rename_i pre hpre
      split at h
      · cases h
      · rename_i v' ids hfin
        simp only [Option.some.injEq, Prod.mk.injEq, OpRes.pan.injEq] at h
        obtain ⟨⟨rfl, rfl⟩, hf⟩ := h
        have hids : ids = [] := by
          rw [← hf] at hfw
          simp [footOf] at hfw
          exact hfw
        subst hids
        obtain ⟨p1, p2, p3, p4⟩ := pre_local (orc := orc) (ops := ops) hl hl2 hpre hf.symm hloc
        simp_all
      · grind [effF_eq, putF_eq, applyF_eq]
      grind [putF_eq, avsF_eq]

end
end Go.AM
