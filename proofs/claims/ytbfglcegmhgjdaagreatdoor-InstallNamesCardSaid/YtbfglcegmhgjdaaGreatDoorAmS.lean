/- An operation looks at its footprint alone. No program. -/
import Derived.Test.YtbfglcegmhgjdaaGreatDoorAmO
import Derived.Test.YtbfglcegmhgjdaaGreatDoorAmQ
namespace Go.AM

section
set_option linter.unusedSectionVars false
variable [Globs] {P : Program} {cfg : Cfg} {nid : Nat} {rho rho' : Operand → AVal}

theorem map_congr {l : List Operand} (h : ∀ x ∈ l, rho x = rho' x) : l.map rho = l.map rho' := List.map_congr_left h

theorem opA_congr {op : Op} (h : ∀ x ∈ op.operands, rho x = rho' x) : opA P nid rho op = opA P nid rho' op := by
  cases op <;> simp only [Op.operands] at h
  case build T ps =>
    simp only [opA]
    rw [show (ps.toList.map fun p => (p.1, rho p.2)) = ps.toList.map fun p => (p.1, rho' p.2) from List.map_congr_left fun p hp => by grind]
  case buildSlice T n ps =>
    simp only [opA]
    rw [show (ps.toList.map fun p => (p.1, rho p.2)) = ps.toList.map fun p => (p.1, rho' p.2) from List.map_congr_left fun p hp => by grind]
  case makeFunc f a b =>
    grind [opA, map_congr]
  case makeMap T r => cases r <;> simp_all [opA]
  case next it st => cases st <;> simp_all [opA]
  case slice T x lo hi mx =>
    have hx : rho x = rho' x := h x (by simp)
    have hlo : lo.map rho = lo.map rho' := by cases lo <;> simp_all
    have hhi : hi.map rho = hi.map rho' := by cases hi <;> simp_all
    cases mx with
    | none => simp only [opA]; rw [hx, hlo, hhi]
    | some m => grind [opA]
  case binOp op T x y yT =>
    have hx : rho x = rho' x := h x (by simp)
    have hy : rho y = rho' y := h y (by simp)
    cases y with
    | const v => cases v <;> simp only [opA, hx, hy]
    | _ => simp only [opA, hx, hy]
  case call c =>
    obtain ⟨cal, args, tys⟩ := c
    cases cal with
    | value f => rfl
    | invoke r m => rfl
    | builtin b =>
      have hargs : ∀ (i : Nat) (x : Operand), args[i]? = some x → rho x = rho' x := fun i x hx => h x (by simp [Call.operands]; exact Array.mem_of_getElem? hx)
      cases b <;> try rfl
      case len =>
        simp only [opA]
        split
        · grind
        · rfl
      case append =>
        grind [opA]
      case clear =>
        grind [opA]
      case min =>
        grind [opA]
      grind [opA]
  all_goals (first | rfl | (simp_all [opA]; done))

theorem opPre_congr {op : Op} (h : ∀ x ∈ op.operands, rho x = rho' x) : opPre P cfg nid rho op = opPre P cfg nid rho' op := by
  have hA := opA_congr (P := P) (nid := nid) h
  cases op <;> simp only [Op.operands] at h
  case call c =>
    obtain ⟨cal, args, tys⟩ := c
    cases cal with
    | value f =>
      have hf : rho f = rho' f := h f (by simp [Call.operands])
      have hargs : args.toList.map rho = args.toList.map rho' := map_congr fun x hx => h x (by simp [Call.operands] at hx ⊢; exact .inr hx)
      simp only [opPre, hf, hargs]
    | invoke r m => simp only [opPre, hA]
    | builtin b => simp only [opPre, hA]
  case defer c =>
    obtain ⟨cal, args, tys⟩ := c
    cases cal with
    | value f =>
      have hf : rho f = rho' f := h f (by simp [Call.operands])
      have hargs : args.toList.map rho = args.toList.map rho' := map_congr fun x hx => h x (by simp [Call.operands] at hx ⊢; exact .inr hx)
      simp only [opPre, callee, hf, hargs]
    | invoke r m => simp only [opPre, hA]
    | builtin b => simp only [opPre, hA]
  case panic x =>
    grind [opPre]
  all_goals simp only [opPre, hA]

end

theorem run_local {α : Type} {H H' : List ABlk} : ∀ (m : Rd α), (∀ b ∈ m.reads H, H'[b]? = H[b]?) → m.run H' = m.run H ∧ m.reads H' = m.reads H
  | .fail, _ => ⟨rfl, rfl⟩
  | .done _, _ => ⟨rfl, rfl⟩
  | .get b k, h => by
    have hb : H'[b]? = H[b]? := h b (by simp [Rd.reads])
    simp only [Rd.run, Rd.reads, hb]
    cases hx : H[b]? with
    | none => exact ⟨rfl, rfl⟩
    | some x =>
      obtain ⟨h1, h2⟩ := run_local (k x) fun c hc => h c (by simp [Rd.reads, hx, hc])
      exact ⟨h1, by simp [h2]⟩

theorem reads_bind {α β : Type} {H : List ABlk} {m : Rd α} {f : α → Rd β} {x : α} (h : m.run H = some x) : (m.bind f).reads H = m.reads H ++ (f x).reads H := by
  induction m with
  | fail => simp [Rd.run] at h
  | done a => grind [Rd.run, Rd.bind, Rd.reads]
  | get b k ih =>
    grind [Rd.run, Rd.bind, Rd.reads]

theorem closure_reads {H : List ABlk} : ∀ (n : Nat) (todo seen out : List Nat), (closure n todo seen).run H = some out → ∀ b ∈ out, b ∈ seen ∨ b ∈ (closure n todo seen).reads H
  | _, [], seen, out, h, b, hb => by
    grind [closure, Rd.run]
  | 0, _ :: _, seen, out, h, b, hb => by simp [closure, Rd.run] at h
  | n + 1, c :: todo, seen, out, h, b, hb => by
    unfold closure at h ⊢
    split at h
    · rename_i hc
      rw [if_pos hc]
      exact closure_reads n todo seen out h b hb
    · rename_i hc
      rw [if_neg hc]
      simp only [Rd.run, Rd.reads] at h ⊢
      cases hx : H[c]? with
      | none => rw [hx] at h; cases h
      | some x =>
        rw [hx] at h
        have key : ∀ todo', (closure n todo' (c :: seen)).run H = some out → b ∈ seen ∨ b ∈ c :: (closure n todo' (c :: seen)).reads H := by
          intro todo' h'
          rcases closure_reads n todo' (c :: seen) out h' b hb with hm | hm
          · grind
          · exact .inr (List.mem_cons_of_mem _ hm)
        grind

/-! ### Setting blocks -/

def updL (u : List (Nat × ABlk)) (H : List ABlk) : List ABlk := u.foldl (fun H p => H.set p.1 p.2) H

theorem updL_len : ∀ (u : List (Nat × ABlk)) (H : List ABlk), (updL u H).length = H.length
  | [], _ => rfl
  | p :: u, H => by have := updL_len u (H.set p.1 p.2); simpa [updL] using this

theorem updL_not {b : Nat} : ∀ (u : List (Nat × ABlk)) (H : List ABlk), b ∉ u.map (·.1) → (updL u H)[b]? = H[b]?
  | [], _, _ => rfl
  | p :: u, H, h => by
    simp only [List.map_cons, List.mem_cons, not_or] at h
    have := updL_not u (H.set p.1 p.2) h.2
    grind [updL]

theorem updL_same {b : Nat} : ∀ (u : List (Nat × ABlk)) (H H' : List ABlk), H[b]? = H'[b]? → (updL u H)[b]? = (updL u H')[b]?
  | [], _, _, h => h
  | p :: u, H, H', h => by
    have hs : (H.set p.1 p.2)[b]? = (H'.set p.1 p.2)[b]? := by
      by_cases he : p.1 = b
      · grind
      · grind
    exact updL_same u _ _ hs

theorem updL_in {b : Nat} : ∀ (u : List (Nat × ABlk)) (H H' : List ABlk), b < H.length → b < H'.length → b ∈ u.map (·.1) → (updL u H)[b]? = (updL u H')[b]?
  | p :: u, H, H', h1, h2, hm => by
    by_cases hu : b ∈ u.map (·.1)
    · exact updL_in u _ _ (by simpa using h1) (by simpa using h2) hu
    · have he : b = p.1 := by
        simp only [List.map_cons, List.mem_cons] at hm
        exact hm.resolve_right hu
      subst he
      refine updL_same u _ _ ?_
      grind

end Go.AM
