/- Elements of another encoding appended to a slice of our own. No conditions. -/
import Derived.Test.YtfgigcdbcbgpoaaDoorAmGd
import Derived.Test.YtfgigcdbcbgpoaaDoorAmSh
namespace Go.AM
set_option linter.unusedVariables false
set_option linter.unusedSimpArgs false
/-- Elements with nil slices in their cells (encN) appended to a slice of our own. -/
def appM {X : Type} (len : Nat) (l m : List X) (enc encN : X → List AVal) (n by_ b ver nid0 : Nat) (eids : List Nat) : OpT Unit where
  run := if len = l.length ∧ roomy (l.length + m.length) by_ = true then some () else none
  eff _ := { val := .sl b (ver + 1) n 0 (l.length + m.length), upd := [(b, .row (ver + 1) n (l.map enc ++ m.map encN))] }
  ids := nid0 :: (eids ++ [b])
  chk gl P cfg nid op rho H := match op with
    | .call { callee := .builtin .append, args, argTypes } => match argTypes[0]?, argTypes[1]?, args[0]?, args[1]? with
      | some ST, some XT, some s, some x => nid = nid0 ∧ H[nid]? = some .unborn ∧ decide (args.size = 2) = true ∧ elemInfo P ST = some (n, by_, true) ∧ (elemSz P XT).isSome = true ∧ decide (0 < n) = true ∧ rho s = .sl b ver n 0 len ∧ H[b]? = some (.row ver n (l.map enc)) ∧
          (elems (rho x)).run H = some (m.map encN) ∧ (elems (rho x)).reads H = eids ∧ ∀ x, (encN x).length = n
      | _, _, _, _ => False
    | _ => False
  claim := nid0 = nid0 ∧ some ABlk.unborn = some ABlk.unborn ∧ @Eq Bool true true ∧ some (n, by_, true) = some (n, by_, true) ∧ @Eq Bool true true ∧ @Eq Bool true true ∧ AVal.sl b ver n 0 len = AVal.sl b ver n 0 len ∧ some (ABlk.row ver n (l.map enc)) = some (ABlk.row ver n (l.map enc)) ∧
    some (m.map encN) = some (m.map encN) ∧ eids = eids ∧ ∀ _ : X, n = n
  holds := by simp
  sound gl P cfg nid op rho H h x hx := by
    split at h
    · split at h
      · rename_i args argTypes _ _ _ _ ST XT sx x hT hX hs hxx
        obtain ⟨rfl, hunb, h0, h1, h2, h3, h4, h5, h6, h6', h7⟩ := h
        obtain ⟨e, i, e1, e2, e3, e4, e5⟩ := elemInfo_some h1
        obtain ⟨n2, hn2⟩ := Option.isSome_iff_exists.1 h2
        obtain ⟨e', e6, _⟩ := elemSz_some hn2
        simp only [decide_eq_true_eq] at h0 h3
        split at hx
        · rename_i hroom
          obtain ⟨rfl, hroom⟩ := hroom
          have hz : i.size ≠ 0 := by omega
          have hall : (m.map encN).all (fun r => r.length == i.size) = true := by
            simp only [List.all_map, List.all_eq_true]
            intro y _
            simp [h7, e3]
          have hop : opPre P cfg nid rho (.call { callee := .builtin .append, args := args, argTypes := argTypes }) = .get nid fun
              | .unborn => (appendA P nid ST XT (rho sx) (rho x)).bind fun e => .done (.eff e)
              | _ => .fail := by
            simp only [opPre, allocs, if_true, opA, hT, hX, hs, hxx, h0]
            congr 1
          have hap : appendA P nid ST XT (rho sx) (rho x) = (elems (rho x)).bind fun new => .get b fun
              | .row v sz rows => if v = ver then (if 0 = 0 ∧ l.length ≤ rows.length ∧ sz = i.size ∧ roomy (l.length + new.length) i.bytes = true ∧ new.all (fun r => r.length == i.size) = true ∧ zeroFits i = true then
                  .done { val := .sl b (ver + 1) sz 0 (l.length + new.length), upd := [(b, .row (ver + 1) sz (cutN l.length rows ++ new))] } else .fail) else .fail
              | _ => .fail := by
            rw [h4]
            unfold appendA
            rw [e1, e6]
            simp only [e2, hz, if_false]
            congr 1
            funext new
            simp only [Rd.bind, rowOf]
            congr 1
            funext y
            cases y with
            | row v sz rows => by_cases hv : v = ver <;> simp [hv, Rd.bind]
            | _ => rfl
          rw [hop, hap]
          simp only [Rd.run, Rd.reads, hunb]
          have hb : ∀ {β : Type} (f : Eff → Rd β) (g : List (List AVal) → Rd Eff) , (((elems (rho x)).bind g).bind f) = (elems (rho x)).bind fun n => (g n).bind f := by
            intro β f g
            generalize elems (rho x) = q
            induction q with
            | fail => rfl
            | done a => rfl
            | get b k ih => simp only [Rd.bind, ih]
          rw [hb, run_bind' h6, reads_bind h6, h6']
          simp only [Rd.bind, Rd.run, Rd.reads, h5, if_true]
          rw [if_pos ⟨trivial, by simp, e3.symm, by simpa [e4] using hroom, hall, e5⟩]
          rw [cutN_eq _ _ (by simp), List.take_of_length_le (by simp)]
          simp [Rd.bind, Rd.run, Rd.reads]
        · cases hx
      · exact h.elim
    · exact h.elim

end Go.AM
