/- Operations over variables: elements of lists, lengths. No program. -/
import Derived.Test.YtpgpmlaafigpaaaGreatDoorAmGc
namespace Go.AM

/-- The elements' size of a slice's type. -/
def elemSz (P : Program) (T : TypeId) : Option Nat := match P.underlying T with
  | some (.slice e) => sizeT P e
  | _ => none

def intOf : AVal → Option Int
  | .sc (.int _ n) => some n
  | _ => none

theorem intOf_some {v : AVal} {n : Int} (h : intOf v = some n) : ∃ k, v = .sc (.int k n) := by
  unfold intOf at h
  split at h
  · simp only [Option.some.injEq] at h; subst h; exact ⟨_, rfl⟩
  · cases h

def at? {X : Type} (l : List X) (i : Int) : Option X := if 0 ≤ i then l[i.toNat]? else none

theorem elemSz_some {P : Program} {T : TypeId} {n : Nat} (h : elemSz P T = some n) : ∃ e, P.underlying T = some (.slice e) ∧ sizeT P e = some n := by
  unfold elemSz at h
  split at h
  · rename_i e he; exact ⟨e, he, h⟩
  · cases h

section
set_option linter.unusedSectionVars false
set_option linter.unusedSimpArgs false

/-- The address of an element of a list that nobody writes. -/
def idxO {X : Type} (l : List X) (enc : X → List AVal) (n : Nat) (i : Int) : OpT X where
  run := at? l i
  eff x := { val := .cptr (enc x) 0 }
  ids := []
  chk gl P cfg nid op rho H := match op with
    | .indexAddr T a b => rho a = .lst (l.map enc) ∧ intOf (rho b) = some i ∧ elemSz P T = some n ∧ ∀ x, (enc x).length = n
    | _ => False
  claim := AVal.lst (l.map enc) = AVal.lst (l.map enc) ∧ some i = some i ∧ some n = some n ∧ ∀ _ : X, n = n
  holds := ⟨rfl, rfl, rfl, fun _ => rfl⟩
  sound gl P cfg nid op rho H h x hx := by
    cases op <;> try exact h.elim
    rename_i T a b
    obtain ⟨h1, h2, h3, h4⟩ := h
    obtain ⟨k, h2⟩ := intOf_some h2
    obtain ⟨e, e1, e2⟩ := elemSz_some h3
    unfold at? at hx
    split at hx
    · rename_i h0
      simp [opPre, allocs, opA, h2, h1, indexAddrA, e1, e2, h0, hx, h4, yields, Rd.bind, Rd.run, Rd.reads]
    · cases hx

/-- The length of a list. -/
def lenO {X : Type} (l : List X) (enc : X → List AVal) : OpT Unit where
  run := some ()
  eff _ := { val := .sc (.int .i64 l.length) }
  ids := []
  chk gl P cfg nid op rho H := match op with
    | .call { callee := .builtin .len, args, argTypes } => match argTypes[0]?, args[0]? with
      | some T, some x => @Eq Bool (elemSz P T).isSome true ∧ rho x = .lst (l.map enc)
      | _, _ => False
    | _ => False
  claim := (@Eq Bool true true) ∧ AVal.lst (l.map enc) = AVal.lst (l.map enc)
  holds := ⟨by rfl, by rfl⟩
  sound gl P cfg nid op rho H h x hx := by
    split at h
    · split at h
      · rename_i args argTypes _ _ T x hT ha
        obtain ⟨h1, h2⟩ := h
        obtain ⟨n, hn⟩ := Option.isSome_iff_exists.1 h1
        obtain ⟨e, e1, e2⟩ := elemSz_some hn
        simp [opPre, allocs, opA, hT, ha, h2, lenA, e1, Rd.bind, Rd.run, Rd.reads]
      · exact h.elim
    · exact h.elim

/-- A list that has elements, held against nil. -/
def nilO {X : Type} (l : List X) (enc : X → List AVal) (eq : Bool) : OpT Unit where
  run := if l.isEmpty then none else some ()
  eff _ := { val := .sc (.bool (!eq)) }
  ids := []
  chk gl P cfg nid op rho H := match op with
    | .binOp bop T a b _ => (match bop with | .eql => eq | .neq => !eq | _ => false) = true ∧ nilConst b = true ∧ rho a = .lst (l.map enc) ∧ (match P.underlying T with | some (.slice _) => true | _ => false) = true
    | _ => False
  claim := (@Eq Bool true true) ∧ (@Eq Bool true true) ∧ AVal.lst (l.map enc) = AVal.lst (l.map enc) ∧ (@Eq Bool true true)
  holds := ⟨rfl, rfl, rfl, rfl⟩
  sound gl P cfg nid op rho H h x hx := by
    cases op <;> try exact h.elim
    rename_i bop T a b sz
    obtain ⟨h1, h2, h3, h4⟩ := h
    have hb := nilConst_some h2
    subst hb
    cases l with
    | nil => simp at hx
    | cons y ys =>
      split at h4
      · rename_i e he
        cases bop <;> simp at h1 <;> subst h1 <;> simp [opPre, allocs, opA, nilConst, nilEqSA, he, h3, nilSl, yields, Rd.bind, Rd.run, Rd.reads]
      · cases h4

/-- A type's size, bytes, zero. -/
def infoOf (P : Program) (T : TypeId) : Option (Nat × Nat × Bool) := match P.info? T with
  | some i => some (i.size, i.bytes, zeroFits i)
  | none => none

def elemInfo (P : Program) (T : TypeId) : Option (Nat × Nat × Bool) := match P.underlying T with
  | some (.slice e) => infoOf P e
  | _ => none

theorem elemInfo_some {P : Program} {T : TypeId} {n by_ : Nat} {z : Bool} (h : elemInfo P T = some (n, by_, z)) : ∃ e i, P.underlying T = some (.slice e) ∧ P.info? e = some i ∧ i.size = n ∧ i.bytes = by_ ∧ zeroFits i = z := by
  unfold elemInfo at h
  split at h
  · rename_i e he
    unfold infoOf at h
    split at h
    · rename_i i hi
      simp only [Option.some.injEq, Prod.mk.injEq] at h
      exact ⟨e, i, he, hi, h.1, h.2.1, h.2.2⟩
    · cases h
  · cases h

theorem run_bind' {α β : Type} {H : List ABlk} {m : Rd α} {f : α → Rd β} {x : α} (h : m.run H = some x) : (m.bind f).run H = (f x).run H := by
  induction m with
  | fail => simp [Rd.run] at h
  | done a => simp [Rd.run] at h; subst h; rfl
  | get b k ih =>
    simp only [Rd.run] at h
    simp only [Rd.bind, Rd.run]
    cases hx : H[b]? with
    | none => rw [hx] at h; cases h
    | some y => rw [hx] at h; exact ih y h

/-- Elements appended to a slice of our own. -/
def appO {X : Type} (len : Nat) (l m : List X) (enc : X → List AVal) (n by_ b ver nid0 : Nat) (eids : List Nat) : OpT Unit where
  run := if len = l.length ∧ roomy (l.length + m.length) by_ = true then some () else none
  eff _ := { val := .sl b (ver + 1) n 0 (l ++ m).length, upd := [(b, .row (ver + 1) n ((l ++ m).map enc))] }
  ids := nid0 :: (eids ++ [b])
  chk gl P cfg nid op rho H := match op with
    | .call { callee := .builtin .append, args, argTypes } => match argTypes[0]?, argTypes[1]?, args[0]?, args[1]? with
      | some ST, some XT, some s, some x => nid = nid0 ∧ H[nid]? = some .unborn ∧ decide (args.size = 2) = true ∧ elemInfo P ST = some (n, by_, true) ∧ (elemSz P XT).isSome = true ∧ decide (0 < n) = true ∧ rho s = .sl b ver n 0 len ∧ H[b]? = some (.row ver n (l.map enc)) ∧
          (elems (rho x)).run H = some (m.map enc) ∧ (elems (rho x)).reads H = eids ∧ ∀ x, (enc x).length = n
      | _, _, _, _ => False
    | _ => False
  claim := nid0 = nid0 ∧ some ABlk.unborn = some ABlk.unborn ∧ @Eq Bool true true ∧ some (n, by_, true) = some (n, by_, true) ∧ @Eq Bool true true ∧ @Eq Bool true true ∧ AVal.sl b ver n 0 len = AVal.sl b ver n 0 len ∧ some (ABlk.row ver n (l.map enc)) = some (ABlk.row ver n (l.map enc)) ∧
    some (m.map enc) = some (m.map enc) ∧ eids = eids ∧ ∀ _ : X, n = n
  holds := by simp
  sound gl P cfg nid op rho H h x hx := by
    split at h
    · split at h
      · rename_i args argTypes _ _ _ _ ST XT sx x hT hX hs hxx
        obtain ⟨rfl, hunb, h0, h1, h2, h3, h4, h5, h6, h6', h7⟩ := h
        obtain ⟨e, i, e1, e2, e3, e4, e5⟩ := elemInfo_some h1
        obtain ⟨n2, hn2⟩ := Option.isSome_iff_exists.1 h2
        obtain ⟨e', e6, _⟩ := elemSz_some hn2
        simp only [decide_eq_true_eq] at h0 h3
        split at hx
        · rename_i hroom
          obtain ⟨rfl, hroom⟩ := hroom
          have hz : i.size ≠ 0 := by omega
          have hall : (m.map enc).all (fun r => r.length == i.size) = true := by
            simp only [List.all_map, List.all_eq_true]
            intro y _
            simp [h7, e3]
          have hop : opPre P cfg nid rho (.call { callee := .builtin .append, args := args, argTypes := argTypes }) = .get nid fun
              | .unborn => (appendA P nid ST XT (rho sx) (rho x)).bind fun e => .done (.eff e)
              | _ => .fail := by
            simp only [opPre, allocs, if_true, opA, hT, hX, hs, hxx, h0]
            congr 1
          have hap : appendA P nid ST XT (rho sx) (rho x) = (elems (rho x)).bind fun new => .get b fun
              | .row v sz rows => if v = ver then (if 0 = 0 ∧ l.length ≤ rows.length ∧ sz = i.size ∧ roomy (l.length + new.length) i.bytes = true ∧ new.all (fun r => r.length == i.size) = true ∧ zeroFits i = true then
                  .done { val := .sl b (ver + 1) sz 0 (l.length + new.length), upd := [(b, .row (ver + 1) sz (cutN l.length rows ++ new))] } else .fail) else .fail
              | _ => .fail := by
            rw [h4]
            unfold appendA
            rw [e1, e6]
            simp only [e2, hz, if_false]
            congr 1
            funext new
            simp only [Rd.bind, rowOf]
            congr 1
            funext y
            cases y with
            | row v sz rows => by_cases hv : v = ver <;> simp [hv, Rd.bind]
            | _ => rfl
          rw [hop, hap]
          simp only [Rd.run, Rd.reads, hunb]
          have hb : ∀ {β : Type} (f : Eff → Rd β) (g : List (List AVal) → Rd Eff) , (((elems (rho x)).bind g).bind f) = (elems (rho x)).bind fun n => (g n).bind f := by
            intro β f g
            generalize elems (rho x) = q
            induction q with
            | fail => rfl
            | done a => rfl
            | get b k ih => simp only [Rd.bind, ih]
          rw [hb, run_bind' h6, reads_bind h6, h6']
          simp only [Rd.bind, Rd.run, Rd.reads, h5, if_true]
          rw [if_pos ⟨trivial, by simp, e3.symm, by simpa [e4] using hroom, hall, e5⟩]
          rw [cutN_eq _ _ (by simp), List.take_of_length_le (by simp)]
          simp [Rd.bind, Rd.run, Rd.reads]
        · cases hx
      · exact h.elim
    · exact h.elim

/-- Elements appended to a slice of our own that was cut short. -/
def appS {X : Type} (len : Nat) (l m : List X) (enc : X → List AVal) (n by_ b ver nid0 : Nat) (eids : List Nat) : OpT Unit where
  run := if len ≤ l.length ∧ roomy (len + m.length) by_ = true then some () else none
  eff _ := { val := .sl b (ver + 1) n 0 (l.take len ++ m).length, upd := [(b, .row (ver + 1) n ((l.take len ++ m).map enc))] }
  ids := nid0 :: (eids ++ [b])
  chk gl P cfg nid op rho H := match op with
    | .call { callee := .builtin .append, args, argTypes } => match argTypes[0]?, argTypes[1]?, args[0]?, args[1]? with
      | some ST, some XT, some s, some x => nid = nid0 ∧ H[nid]? = some .unborn ∧ decide (args.size = 2) = true ∧ elemInfo P ST = some (n, by_, true) ∧ (elemSz P XT).isSome = true ∧ decide (0 < n) = true ∧ rho s = .sl b ver n 0 len ∧ H[b]? = some (.row ver n (l.map enc)) ∧
          (elems (rho x)).run H = some (m.map enc) ∧ (elems (rho x)).reads H = eids ∧ ∀ x, (enc x).length = n
      | _, _, _, _ => False
    | _ => False
  claim := nid0 = nid0 ∧ some ABlk.unborn = some ABlk.unborn ∧ @Eq Bool true true ∧ some (n, by_, true) = some (n, by_, true) ∧ @Eq Bool true true ∧ @Eq Bool true true ∧ AVal.sl b ver n 0 len = AVal.sl b ver n 0 len ∧ some (ABlk.row ver n (l.map enc)) = some (ABlk.row ver n (l.map enc)) ∧
    some (m.map enc) = some (m.map enc) ∧ eids = eids ∧ ∀ _ : X, n = n
  holds := by simp
  sound gl P cfg nid op rho H h x hx := by
    split at h
    · split at h
      · rename_i args argTypes _ _ _ _ ST XT sx x hT hX hs hxx
        obtain ⟨rfl, hunb, h0, h1, h2, h3, h4, h5, h6, h6', h7⟩ := h
        obtain ⟨e, i, e1, e2, e3, e4, e5⟩ := elemInfo_some h1
        obtain ⟨n2, hn2⟩ := Option.isSome_iff_exists.1 h2
        obtain ⟨e', e6, _⟩ := elemSz_some hn2
        simp only [decide_eq_true_eq] at h0 h3
        split at hx
        · rename_i hroom
          obtain ⟨hlen, hroom⟩ := hroom
          have hz : i.size ≠ 0 := by omega
          have hall : (m.map enc).all (fun r => r.length == i.size) = true := by
            simp only [List.all_map, List.all_eq_true]
            intro y _
            simp [h7, e3]
          have hop : opPre P cfg nid rho (.call { callee := .builtin .append, args := args, argTypes := argTypes }) = .get nid fun
              | .unborn => (appendA P nid ST XT (rho sx) (rho x)).bind fun e => .done (.eff e)
              | _ => .fail := by
            simp only [opPre, allocs, if_true, opA, hT, hX, hs, hxx, h0]
            congr 1
          have hap : appendA P nid ST XT (rho sx) (rho x) = (elems (rho x)).bind fun new => .get b fun
              | .row v sz rows => if v = ver then (if 0 = 0 ∧ len ≤ rows.length ∧ sz = i.size ∧ roomy (len + new.length) i.bytes = true ∧ new.all (fun r => r.length == i.size) = true ∧ zeroFits i = true then
                  .done { val := .sl b (ver + 1) sz 0 (len + new.length), upd := [(b, .row (ver + 1) sz (cutN len rows ++ new))] } else .fail) else .fail
              | _ => .fail := by
            rw [h4]
            unfold appendA
            rw [e1, e6]
            simp only [e2, hz, if_false]
            congr 1
            funext new
            simp only [Rd.bind, rowOf]
            congr 1
            funext y
            cases y with
            | row v sz rows => by_cases hv : v = ver <;> simp [hv, Rd.bind]
            | _ => rfl
          rw [hop, hap]
          simp only [Rd.run, Rd.reads, hunb]
          have hb : ∀ {β : Type} (f : Eff → Rd β) (g : List (List AVal) → Rd Eff) , (((elems (rho x)).bind g).bind f) = (elems (rho x)).bind fun n => (g n).bind f := by
            intro β f g
            generalize elems (rho x) = q
            induction q with
            | fail => rfl
            | done a => rfl
            | get b k ih => simp only [Rd.bind, ih]
          rw [hb, run_bind' h6, reads_bind h6, h6']
          simp only [Rd.bind, Rd.run, Rd.reads, h5, if_true]
          rw [if_pos ⟨trivial, by simpa using hlen, e3.symm, by simpa [e4] using hroom, hall, e5⟩]
          rw [cutN_eq _ _ (by simpa using hlen)]
          simp [Rd.bind, Rd.run, Rd.reads, List.map_take, Nat.min_eq_left hlen]
        · cases hx
      · exact h.elim
    · exact h.elim

theorem elems_part {X : Type} (l : List X) (enc : X → List AVal) {x : AVal} {H : List ABlk} {b ver sz o n : Nat} (hx : x = .sl b ver sz o n) (hH : H[b]? = some (.row ver sz (l.map enc))) (hle : o + n ≤ l.length) :
    (elems x).run H = some (((l.drop o).take n).map enc) ∧ (elems x).reads H = [b] := by
  subst hx
  simp [elems, rowOf, Rd.bind, Rd.run, Rd.reads, hH, hle, List.map_drop, List.map_take]

/-- A part of a slice of our own appended to another one. -/
def appE {X : Type} (len : Nat) (l l2 : List X) (b2 ver2 o2 n2 : Nat) (enc : X → List AVal) (n by_ b ver nid0 : Nat) : OpT Unit where
  run := if (len = l.length ∧ o2 + n2 ≤ l2.length) ∧ roomy (l.length + n2) by_ = true then some () else none
  eff _ := { val := .sl b (ver + 1) n 0 (l ++ (l2.drop o2).take n2).length, upd := [(b, .row (ver + 1) n ((l ++ (l2.drop o2).take n2).map enc))] }
  ids := nid0 :: ([b2] ++ [b])
  chk gl P cfg nid op rho H := match op with
    | .call { callee := .builtin .append, args, argTypes } => match argTypes[0]?, argTypes[1]?, args[0]?, args[1]? with
      | some ST, some XT, some s, some x => nid = nid0 ∧ H[nid]? = some .unborn ∧ decide (args.size = 2) = true ∧ elemInfo P ST = some (n, by_, true) ∧ (elemSz P XT).isSome = true ∧ decide (0 < n) = true ∧ rho s = .sl b ver n 0 len ∧ H[b]? = some (.row ver n (l.map enc)) ∧
          rho x = .sl b2 ver2 n o2 n2 ∧ H[b2]? = some (.row ver2 n (l2.map enc)) ∧ ∀ x, (enc x).length = n
      | _, _, _, _ => False
    | _ => False
  claim := nid0 = nid0 ∧ some ABlk.unborn = some ABlk.unborn ∧ @Eq Bool true true ∧ some (n, by_, true) = some (n, by_, true) ∧ @Eq Bool true true ∧ @Eq Bool true true ∧ AVal.sl b ver n 0 len = AVal.sl b ver n 0 len ∧ some (ABlk.row ver n (l.map enc)) = some (ABlk.row ver n (l.map enc)) ∧
    AVal.sl b2 ver2 n o2 n2 = AVal.sl b2 ver2 n o2 n2 ∧ some (ABlk.row ver2 n (l2.map enc)) = some (ABlk.row ver2 n (l2.map enc)) ∧ ∀ _ : X, n = n
  holds := by simp
  sound gl P cfg nid op rho H h x hx := by
    split at h
    · split at h
      · rename_i args argTypes _ _ _ _ ST XT sx x hT hX hs hxx
        obtain ⟨rfl, hunb, h0, h1, h2, h3, h4, h5, h6, h6', h7⟩ := h
        obtain ⟨e, i, e1, e2, e3, e4, e5⟩ := elemInfo_some h1
        obtain ⟨n9, hn2⟩ := Option.isSome_iff_exists.1 h2
        obtain ⟨e', e6, _⟩ := elemSz_some hn2
        simp only [decide_eq_true_eq] at h0 h3
        split at hx
        · rename_i hroom
          obtain ⟨⟨rfl, hle2⟩, hroom⟩ := hroom
          obtain ⟨h6, h6'⟩ := elems_part l2 enc h6 h6' hle2
          obtain ⟨m, hm⟩ : ∃ m, m = (l2.drop o2).take n2 := ⟨_, rfl⟩
          have hml : m.length = n2 := by rw [hm, List.length_take, List.length_drop]; omega
          rw [← hm] at h6 ⊢
          rw [← hml] at hroom
          have hz : i.size ≠ 0 := by omega
          have hall : (m.map enc).all (fun r => r.length == i.size) = true := by
            simp only [List.all_map, List.all_eq_true]
            intro y _
            simp [h7, e3]
          have hop : opPre P cfg nid rho (.call { callee := .builtin .append, args := args, argTypes := argTypes }) = .get nid fun
              | .unborn => (appendA P nid ST XT (rho sx) (rho x)).bind fun e => .done (.eff e)
              | _ => .fail := by
            simp only [opPre, allocs, if_true, opA, hT, hX, hs, hxx, h0]
            congr 1
          have hap : appendA P nid ST XT (rho sx) (rho x) = (elems (rho x)).bind fun new => .get b fun
              | .row v sz rows => if v = ver then (if 0 = 0 ∧ l.length ≤ rows.length ∧ sz = i.size ∧ roomy (l.length + new.length) i.bytes = true ∧ new.all (fun r => r.length == i.size) = true ∧ zeroFits i = true then
                  .done { val := .sl b (ver + 1) sz 0 (l.length + new.length), upd := [(b, .row (ver + 1) sz (cutN l.length rows ++ new))] } else .fail) else .fail
              | _ => .fail := by
            rw [h4]
            unfold appendA
            rw [e1, e6]
            simp only [e2, hz, if_false]
            congr 1
            funext new
            simp only [Rd.bind, rowOf]
            congr 1
            funext y
            cases y with
            | row v sz rows => by_cases hv : v = ver <;> simp [hv, Rd.bind]
            | _ => rfl
          rw [hop, hap]
          simp only [Rd.run, Rd.reads, hunb]
          have hb : ∀ {β : Type} (f : Eff → Rd β) (g : List (List AVal) → Rd Eff) , (((elems (rho x)).bind g).bind f) = (elems (rho x)).bind fun n => (g n).bind f := by
            intro β f g
            generalize elems (rho x) = q
            induction q with
            | fail => rfl
            | done a => rfl
            | get b k ih => simp only [Rd.bind, ih]
          rw [hb, run_bind' h6, reads_bind h6, h6']
          simp only [Rd.bind, Rd.run, Rd.reads, h5, if_true]
          rw [if_pos ⟨trivial, by simp, e3.symm, by simpa [e4] using hroom, hall, e5⟩]
          rw [cutN_eq _ _ (by simp), List.take_of_length_le (by simp)]
          simp [Rd.bind, Rd.run, Rd.reads]
        · cases hx
      · exact h.elim
    · exact h.elim

/-- A part of a slice of our own appended to one that was cut short. -/
def appF {X : Type} (len : Nat) (l l2 : List X) (b2 ver2 o2 n2 : Nat) (enc : X → List AVal) (n by_ b ver nid0 : Nat) : OpT Unit where
  run := if (len ≤ l.length ∧ o2 + n2 ≤ l2.length) ∧ roomy (len + n2) by_ = true then some () else none
  eff _ := { val := .sl b (ver + 1) n 0 (l.take len ++ (l2.drop o2).take n2).length, upd := [(b, .row (ver + 1) n ((l.take len ++ (l2.drop o2).take n2).map enc))] }
  ids := nid0 :: ([b2] ++ [b])
  chk gl P cfg nid op rho H := match op with
    | .call { callee := .builtin .append, args, argTypes } => match argTypes[0]?, argTypes[1]?, args[0]?, args[1]? with
      | some ST, some XT, some s, some x => nid = nid0 ∧ H[nid]? = some .unborn ∧ decide (args.size = 2) = true ∧ elemInfo P ST = some (n, by_, true) ∧ (elemSz P XT).isSome = true ∧ decide (0 < n) = true ∧ rho s = .sl b ver n 0 len ∧ H[b]? = some (.row ver n (l.map enc)) ∧
          rho x = .sl b2 ver2 n o2 n2 ∧ H[b2]? = some (.row ver2 n (l2.map enc)) ∧ ∀ x, (enc x).length = n
      | _, _, _, _ => False
    | _ => False
  claim := nid0 = nid0 ∧ some ABlk.unborn = some ABlk.unborn ∧ @Eq Bool true true ∧ some (n, by_, true) = some (n, by_, true) ∧ @Eq Bool true true ∧ @Eq Bool true true ∧ AVal.sl b ver n 0 len = AVal.sl b ver n 0 len ∧ some (ABlk.row ver n (l.map enc)) = some (ABlk.row ver n (l.map enc)) ∧
    AVal.sl b2 ver2 n o2 n2 = AVal.sl b2 ver2 n o2 n2 ∧ some (ABlk.row ver2 n (l2.map enc)) = some (ABlk.row ver2 n (l2.map enc)) ∧ ∀ _ : X, n = n
  holds := by simp
  sound gl P cfg nid op rho H h x hx := by
    split at h
    · split at h
      · rename_i args argTypes _ _ _ _ ST XT sx x hT hX hs hxx
        obtain ⟨rfl, hunb, h0, h1, h2, h3, h4, h5, h6, h6', h7⟩ := h
        obtain ⟨e, i, e1, e2, e3, e4, e5⟩ := elemInfo_some h1
        obtain ⟨n9, hn2⟩ := Option.isSome_iff_exists.1 h2
        obtain ⟨e', e6, _⟩ := elemSz_some hn2
        simp only [decide_eq_true_eq] at h0 h3
        split at hx
        · rename_i hroom
          obtain ⟨⟨hlen, hle2⟩, hroom⟩ := hroom
          obtain ⟨h6, h6'⟩ := elems_part l2 enc h6 h6' hle2
          obtain ⟨m, hm⟩ : ∃ m, m = (l2.drop o2).take n2 := ⟨_, rfl⟩
          have hml : m.length = n2 := by rw [hm, List.length_take, List.length_drop]; omega
          rw [← hm] at h6 ⊢
          rw [← hml] at hroom
          have hz : i.size ≠ 0 := by omega
          have hall : (m.map enc).all (fun r => r.length == i.size) = true := by
            simp only [List.all_map, List.all_eq_true]
            intro y _
            simp [h7, e3]
          have hop : opPre P cfg nid rho (.call { callee := .builtin .append, args := args, argTypes := argTypes }) = .get nid fun
              | .unborn => (appendA P nid ST XT (rho sx) (rho x)).bind fun e => .done (.eff e)
              | _ => .fail := by
            simp only [opPre, allocs, if_true, opA, hT, hX, hs, hxx, h0]
            congr 1
          have hap : appendA P nid ST XT (rho sx) (rho x) = (elems (rho x)).bind fun new => .get b fun
              | .row v sz rows => if v = ver then (if 0 = 0 ∧ len ≤ rows.length ∧ sz = i.size ∧ roomy (len + new.length) i.bytes = true ∧ new.all (fun r => r.length == i.size) = true ∧ zeroFits i = true then
                  .done { val := .sl b (ver + 1) sz 0 (len + new.length), upd := [(b, .row (ver + 1) sz (cutN len rows ++ new))] } else .fail) else .fail
              | _ => .fail := by
            rw [h4]
            unfold appendA
            rw [e1, e6]
            simp only [e2, hz, if_false]
            congr 1
            funext new
            simp only [Rd.bind, rowOf]
            congr 1
            funext y
            cases y with
            | row v sz rows => by_cases hv : v = ver <;> simp [hv, Rd.bind]
            | _ => rfl
          rw [hop, hap]
          simp only [Rd.run, Rd.reads, hunb]
          have hb : ∀ {β : Type} (f : Eff → Rd β) (g : List (List AVal) → Rd Eff) , (((elems (rho x)).bind g).bind f) = (elems (rho x)).bind fun n => (g n).bind f := by
            intro β f g
            generalize elems (rho x) = q
            induction q with
            | fail => rfl
            | done a => rfl
            | get b k ih => simp only [Rd.bind, ih]
          rw [hb, run_bind' h6, reads_bind h6, h6']
          simp only [Rd.bind, Rd.run, Rd.reads, h5, if_true]
          rw [if_pos ⟨trivial, by simpa using hlen, e3.symm, by simpa [e4] using hroom, hall, e5⟩]
          rw [cutN_eq _ _ (by simpa using hlen)]
          simp [Rd.bind, Rd.run, Rd.reads, List.map_take, Nat.min_eq_left hlen]
        · cases hx
      · exact h.elim
    · exact h.elim

/-- A slice without memory. -/
def bare : AVal → Bool
  | .sc (.slice none 0 0) => true
  | .emp => true
  | _ => false

/-- Elements, at least one, appended to a slice without memory. -/
def appN {X : Type} (m : List X) (enc : X → List AVal) (n by_ nid0 : Nat) (eids : List Nat) : OpT Unit where
  run := if m.isEmpty = false ∧ roomy m.length by_ = true then some () else none
  eff _ := { val := .sl nid0 0 n 0 m.length, upd := [(nid0, .row 0 n (m.map enc))] }
  ids := nid0 :: eids
  chk gl P cfg nid op rho H := match op with
    | .call { callee := .builtin .append, args, argTypes } => match argTypes[0]?, argTypes[1]?, args[0]?, args[1]? with
      | some ST, some XT, some s, some x => nid = nid0 ∧ H[nid]? = some .unborn ∧ decide (args.size = 2) = true ∧ elemInfo P ST = some (n, by_, true) ∧ (elemSz P XT).isSome = true ∧ decide (0 < n) = true ∧ bare (rho s) = true ∧
          (elems (rho x)).run H = some (m.map enc) ∧ (elems (rho x)).reads H = eids ∧ ∀ x, (enc x).length = n
      | _, _, _, _ => False
    | _ => False
  claim := nid0 = nid0 ∧ some ABlk.unborn = some ABlk.unborn ∧ @Eq Bool true true ∧ some (n, by_, true) = some (n, by_, true) ∧ @Eq Bool true true ∧ @Eq Bool true true ∧ @Eq Bool true true ∧
    some (m.map enc) = some (m.map enc) ∧ eids = eids ∧ ∀ _ : X, n = n
  holds := by simp
  sound gl P cfg nid op rho H h x hx := by
    split at h
    · split at h
      · rename_i args argTypes _ _ _ _ ST XT sx x hT hX hs hxx
        obtain ⟨rfl, hunb, h0, h1, h2, h3, h4, h6, h6', h7⟩ := h
        obtain ⟨e, i, e1, e2, e3, e4, e5⟩ := elemInfo_some h1
        obtain ⟨n2, hn2⟩ := Option.isSome_iff_exists.1 h2
        obtain ⟨e', e6, _⟩ := elemSz_some hn2
        simp only [decide_eq_true_eq] at h0 h3
        split at hx
        · rename_i hroom
          obtain ⟨hne, hroom⟩ := hroom
          have hml : (m.map enc).length ≠ 0 := by cases m <;> simp at hne ⊢
          have hz : i.size ≠ 0 := by omega
          have hall : (m.map enc).all (fun r => r.length == i.size) = true := by
            simp only [List.all_map, List.all_eq_true]
            intro y _
            simp [h7, e3]
          have hop : opPre P cfg nid rho (.call { callee := .builtin .append, args := args, argTypes := argTypes }) = .get nid fun
              | .unborn => (appendA P nid ST XT (rho sx) (rho x)).bind fun e => .done (.eff e)
              | _ => .fail := by
            simp only [opPre, allocs, if_true, opA, hT, hX, hs, hxx, h0]
            congr 1
          have hap : ∃ s : AVal, appendA P nid ST XT (rho sx) (rho x) = (elems (rho x)).bind fun new => if new.length = 0 then .done { val := s }
              else if roomy new.length i.bytes && new.all (fun r => r.length == i.size) && zeroFits i then .done { val := .sl nid 0 i.size 0 new.length, upd := [(nid, .row 0 i.size new)] } else .fail := by
            refine ⟨rho sx, ?_⟩
            unfold appendA
            rw [e1, e6]
            simp only [e2, hz, if_false]
            unfold bare at h4
            split at h4
            · rename_i hb; rw [hb]; rfl
            · rename_i hb; rw [hb]
            · cases h4
          obtain ⟨s, hap⟩ := hap
          rw [hop, hap]
          simp only [Rd.run, Rd.reads, hunb]
          have hb : ∀ {β : Type} (f : Eff → Rd β) (g : List (List AVal) → Rd Eff) , (((elems (rho x)).bind g).bind f) = (elems (rho x)).bind fun n => (g n).bind f := by
            intro β f g
            generalize elems (rho x) = q
            induction q with
            | fail => rfl
            | done a => rfl
            | get b k ih => simp only [Rd.bind, ih]
          rw [hb, run_bind' h6, reads_bind h6, h6']
          rw [if_neg hml, if_pos (by rw [hall, e5, e4]; simpa using hroom)]
          simp [Rd.bind, Rd.run, Rd.reads, e3]
        · cases hx
      · exact h.elim
    · exact h.elim

def bareV : Bool → AVal
  | true => .emp
  | false => .sc (.slice none 0 0)

/-- No element appended to a slice without memory. -/
def app0 {X : Type} (m : List X) (enc : X → List AVal) (nid0 : Nat) (v : Bool) (eids : List Nat) : OpT Unit where
  run := if m.isEmpty = true then some () else none
  eff _ := { val := bareV v }
  ids := nid0 :: eids
  chk gl P cfg nid op rho H := match op with
    | .call { callee := .builtin .append, args, argTypes } => match argTypes[0]?, argTypes[1]?, args[0]?, args[1]? with
      | some ST, some XT, some s, some x => nid = nid0 ∧ H[nid]? = some .unborn ∧ decide (args.size = 2) = true ∧ (match elemInfo P ST with | some (n, _, _) => decide (0 < n) | none => false) = true ∧ (elemSz P XT).isSome = true ∧ rho s = bareV v ∧
          (elems (rho x)).run H = some (m.map enc) ∧ (elems (rho x)).reads H = eids
      | _, _, _, _ => False
    | _ => False
  claim := nid0 = nid0 ∧ some ABlk.unborn = some ABlk.unborn ∧ @Eq Bool true true ∧ @Eq Bool true true ∧ @Eq Bool true true ∧ bareV v = bareV v ∧
    some (m.map enc) = some (m.map enc) ∧ eids = eids
  holds := by simp
  sound gl P cfg nid op rho H h x hx := by
    split at h
    · split at h
      · rename_i args argTypes _ _ _ _ ST XT sx x hT hX hs hxx
        obtain ⟨rfl, hunb, h0, h1, h2, h4, h6, h6'⟩ := h
        split at h1
        · rename_i n by_ z hei
          obtain ⟨e, i, e1, e2, e3, e4, e5⟩ := elemInfo_some hei
          obtain ⟨n2, hn2⟩ := Option.isSome_iff_exists.1 h2
          obtain ⟨e', e6, _⟩ := elemSz_some hn2
          simp only [decide_eq_true_eq] at h0 h1
          split at hx
          · rename_i hm
            have hnil : m = [] := by cases m <;> simp at hm ⊢
            subst hnil
            have hz : i.size ≠ 0 := by omega
            have hop : opPre P cfg nid rho (.call { callee := .builtin .append, args := args, argTypes := argTypes }) = .get nid fun
                | .unborn => (appendA P nid ST XT (rho sx) (rho x)).bind fun e => .done (.eff e)
                | _ => .fail := by
              simp only [opPre, allocs, if_true, opA, hT, hX, hs, hxx, h0]
              congr 1
            have hap : appendA P nid ST XT (rho sx) (rho x) = (elems (rho x)).bind fun new => if new.length = 0 then .done { val := bareV v }
                else if roomy new.length i.bytes && new.all (fun r => r.length == i.size) && zeroFits i then .done { val := .sl nid 0 i.size 0 new.length, upd := [(nid, .row 0 i.size new)] } else .fail := by
              unfold appendA
              rw [e1, e6]
              simp only [e2, hz, if_false]
              rw [h4]
              cases v <;> rfl
            rw [hop, hap]
            simp only [Rd.run, Rd.reads, hunb]
            have hb : ∀ {β : Type} (f : Eff → Rd β) (g : List (List AVal) → Rd Eff) , (((elems (rho x)).bind g).bind f) = (elems (rho x)).bind fun n => (g n).bind f := by
              intro β f g
              generalize elems (rho x) = q
              induction q with
              | fail => rfl
              | done a => rfl
              | get b k ih => simp only [Rd.bind, ih]
            rw [hb, run_bind' h6, reads_bind h6, h6']
            simp [Rd.bind, Rd.run, Rd.reads]
          · cases hx
        · cases h1
      · exact h.elim
    · exact h.elim

/-- The address of an element of a slice of our own. -/
def idxS (m n b ver : Nat) (i : Int) : OpT Unit where
  run := if 0 ≤ i ∧ i < m then some () else none
  eff _ := { val := .ptr b ver i.toNat 0 }
  ids := []
  chk gl P cfg nid op rho H := match op with
    | .indexAddr T a c => rho a = .sl b ver n 0 m ∧ intOf (rho c) = some i ∧ elemSz P T = some n
    | _ => False
  claim := AVal.sl b ver n 0 m = AVal.sl b ver n 0 m ∧ some i = some i ∧ some n = some n
  holds := ⟨rfl, rfl, rfl⟩
  sound gl P cfg nid op rho H h x hx := by
    cases op <;> try exact h.elim
    rename_i T a c
    obtain ⟨h1, h2, h3⟩ := h
    obtain ⟨k, h2⟩ := intOf_some h2
    obtain ⟨e, e1, e2⟩ := elemSz_some h3
    split at hx
    · rename_i h0
      simp [opPre, allocs, opA, h2, h1, indexAddrA, e1, e2, h0.1, h0.2, yields, Rd.bind, Rd.run, Rd.reads]
    · cases hx

/-- What lies at an element, or in a field of it. -/
def ldO {X : Type} (l : List X) (enc : X → List AVal) (n b ver i o : Nat) (val : X → AVal) : OpT X where
  run := l[i]?
  eff x := { val := val x }
  ids := [b]
  chk gl P cfg nid op rho H := match op with
    | .load T a => rho a = .ptr b ver i o ∧ H[b]? = some (.row ver n (l.map enc)) ∧ ∀ x, loadIn P T (enc x) o = some (val x)
    | _ => False
  claim := AVal.ptr b ver i o = AVal.ptr b ver i o ∧ some (ABlk.row ver n (l.map enc)) = some (ABlk.row ver n (l.map enc)) ∧ ∀ x, some (val x) = some (val x)
  holds := ⟨rfl, rfl, fun _ => rfl⟩
  sound gl P cfg nid op rho H h x hx := by
    cases op <;> try exact h.elim
    rename_i T a
    obtain ⟨h1, h2, h3⟩ := h
    simp [opPre, allocs, opA, h1, loadA, rowOf, h2, hx, h3, yields, Rd.bind, Rd.run, Rd.reads]

/-- An element, or a field of it, given anew. -/
def stO {X : Type} (l : List X) (enc : X → List AVal) (n b ver i o : Nat) (y : X → X) : OpT X where
  run := l[i]?
  eff x := { val := nothing, upd := [(b, .row ver n ((l.set i (y x)).map enc))] }
  ids := [b]
  chk gl P cfg nid op rho H := match op with
    | .store T a v => rho a = .ptr b ver i o ∧ H[b]? = some (.row ver n (l.map enc)) ∧ ∀ x, (cellsFor P T (rho v)).bind (storeIn (enc x) o) = some (enc (y x))
    | _ => False
  claim := AVal.ptr b ver i o = AVal.ptr b ver i o ∧ some (ABlk.row ver n (l.map enc)) = some (ABlk.row ver n (l.map enc)) ∧ ∀ x, some (enc (y x)) = some (enc (y x))
  holds := ⟨rfl, rfl, fun _ => rfl⟩
  sound gl P cfg nid op rho H h x hx := by
    cases op <;> try exact h.elim
    rename_i T a v
    obtain ⟨h1, h2, h3⟩ := h
    obtain ⟨vs, h4, h5⟩ := Option.bind_eq_some_iff.1 (h3 x)
    simp [opPre, allocs, opA, h1, storeA, rowOf, h2, hx, h4, h5, Rd.bind, Rd.run, Rd.reads, List.map_set]

/-- A slice made, all elements alike. -/
def mksO {X : Type} (d : X) (enc : X → List AVal) (n by_ nid0 : Nat) (k : Int) : OpT Unit where
  run := if 0 ≤ k ∧ roomy k.toNat by_ = true then some () else none
  eff _ := { val := .sl nid0 0 n 0 (List.replicate k.toNat d).length, upd := [(nid0, .row 0 n ((List.replicate k.toNat d).map enc))] }
  ids := [nid0]
  chk gl P cfg nid op rho H := match op with
    | .makeSlice T a c => nid = nid0 ∧ H[nid]? = some .unborn ∧ intOf (rho a) = some k ∧ intOf (rho c) = some k ∧ elemInfo P T = some (n, by_, true) ∧ (match P.underlying T with | some (.slice e) => zeroCellsA P e | _ => none) = some (enc d) ∧ (enc d).length = n ∧ decide (0 < n) = true
    | _ => False
  claim := nid0 = nid0 ∧ some ABlk.unborn = some ABlk.unborn ∧ some k = some k ∧ some k = some k ∧ some (n, by_, true) = some (n, by_, true) ∧ some (enc d) = some (enc d) ∧ n = n ∧ @Eq Bool true true
  holds := by simp
  sound gl P cfg nid op rho H h x hx := by
    cases op <;> try exact h.elim
    rename_i T a c
    obtain ⟨rfl, hunb, h1, h2, h3, h4, h5, h6⟩ := h
    obtain ⟨k1, h1⟩ := intOf_some h1
    obtain ⟨k2, h2⟩ := intOf_some h2
    obtain ⟨e, i, e1, e2, e3, e4, e5⟩ := elemInfo_some h3
    rw [e1] at h4
    simp only at h4
    simp only [decide_eq_true_eq] at h6
    split at hx
    · rename_i h0
      have hop : makeSliceA P nid T (rho a) (rho c) = some { val := .sl nid 0 i.size 0 k.toNat, upd := [(nid, .row 0 i.size (List.replicate k.toNat (enc d)))] } := by
        rw [h1, h2]
        simp only [makeSliceA, e1, e2, h4]
        rw [if_pos ⟨h0.1, Int.le_refl _, by rw [e4]; exact h0.2, by rw [h5, e3], by omega⟩]
      simp [opPre, allocs, opA, hop, optEff, Rd.bind, Rd.run, Rd.reads, hunb, e3]
    · cases hx

def boundO (d m : Nat) : Option Int → Option Nat
  | none => some d
  | some i => if 0 ≤ i ∧ i ≤ m then some i.toNat else none

/-- A part of a list. -/
def slcO {X : Type} (l : List X) (enc : X → List AVal) (n : Nat) (lo hi : Option Int) : OpT (Nat × Nat) where
  run := (boundO l.length l.length hi).bind fun h => (boundO 0 h lo).map fun k => (k, h)
  eff x := { val := .lst (((l.take x.2).drop x.1).map enc) }
  ids := []
  chk gl P cfg nid op rho H := match op with
    | .slice T a lo' hi' none => rho a = .lst (l.map enc) ∧ (lo'.map fun x => intOf (rho x)) = lo.map some ∧ (hi'.map fun x => intOf (rho x)) = hi.map some ∧ elemSz P T = some n ∧ ∀ x, (enc x).length = n
    | _ => False
  claim := AVal.lst (l.map enc) = AVal.lst (l.map enc) ∧ lo.map some = lo.map some ∧ hi.map some = hi.map some ∧ some n = some n ∧ ∀ _ : X, n = n
  holds := ⟨rfl, rfl, rfl, rfl, fun _ => rfl⟩
  sound gl P cfg nid op rho H h x hx := by
    cases op <;> try exact h.elim
    rename_i T a lo' hi' mx
    cases mx with
    | some _ => exact h.elim
    | none =>
      obtain ⟨h1, h2, h3, h4, h5⟩ := h
      obtain ⟨e, e1, e2⟩ := elemSz_some h4
      have hb : ∀ (d m : Nat) (x' : Option Operand) (x : Option Int), (x'.map fun x => intOf (rho x)) = x.map some → boundA d m (x'.map rho) = boundO d m x := by
        intro d m x' x hx
        cases x' <;> cases x <;> simp at hx
        · rfl
        · obtain ⟨k, hk⟩ := intOf_some hx
          simp [boundA, boundO, hk]
      obtain ⟨hh, q1, q2⟩ := Option.bind_eq_some_iff.1 hx
      obtain ⟨k, q3, rfl⟩ := Option.map_eq_some_iff.1 q2
      have hall : (l.map enc).all (fun r => sizeT P e == some r.length) = true := by
        simp only [List.all_map, List.all_eq_true]
        intro y _
        simp [h5, e2]
      have hop : sliceA P T (rho a) (lo'.map rho) (hi'.map rho) = some (.lst (((l.map enc).take hh).drop k)) := by
        unfold sliceA
        rw [h1]
        simp only [e1, lenA]
        rw [hb _ _ _ _ h3, List.length_map, q1]
        simp only [Option.bind_some]
        rw [hb _ _ _ _ h2, q3]
        rw [Option.bind_some, if_pos (by rw [hall, e2]; rfl)]
      simp [opPre, allocs, opA, hop, yields, Rd.bind, Rd.run, Rd.reads, List.map_take, List.map_drop]

/-! ### Parts of slices of our own -/

/-- A slice of our own cut short. -/
def slcH (m n b ver o : Nat) (hi : Int) : OpT Nat where
  run := if 0 ≤ hi ∧ hi ≤ m then some hi.toNat else none
  eff x := { val := .sl b ver n o x }
  ids := []
  chk gl P cfg nid op rho H := match op with
    | .slice T a none (some h) none => rho a = .sl b ver n o m ∧ intOf (rho h) = some hi ∧ elemSz P T = some n
    | _ => False
  claim := AVal.sl b ver n o m = AVal.sl b ver n o m ∧ some hi = some hi ∧ some n = some n
  holds := ⟨rfl, rfl, rfl⟩
  sound gl P cfg nid op rho H h x hx := by
    split at h
    · rename_i T a c
      obtain ⟨h1, h2, h3⟩ := h
      obtain ⟨k, h2⟩ := intOf_some h2
      obtain ⟨e, e1, e2⟩ := elemSz_some h3
      split at hx
      · rename_i h0
        simp only [Option.some.injEq] at hx
        subst hx
        have hop : sliceA P T (rho a) none (some (rho c)) = some (.sl b ver n o hi.toNat) := by
          unfold sliceA
          rw [h1, h2, e1]
          simp only [lenA, boundA, h0, and_self, if_true, Option.bind_some, e2]
        simp [opPre, allocs, opA, hop, yields, Rd.bind, Rd.run, Rd.reads]
      · cases hx
    · exact h.elim

/-- What of a slice of our own lies behind a place: something does. -/
def slcL (m n b ver o : Nat) (lo : Int) : OpT Nat where
  run := if 0 < lo ∧ lo < m then some lo.toNat else none
  eff x := { val := .sl b ver n (o + x) (m - x) }
  ids := []
  chk gl P cfg nid op rho H := match op with
    | .slice T a (some l) none none => rho a = .sl b ver n o m ∧ intOf (rho l) = some lo ∧ elemSz P T = some n
    | _ => False
  claim := AVal.sl b ver n o m = AVal.sl b ver n o m ∧ some lo = some lo ∧ some n = some n
  holds := ⟨rfl, rfl, rfl⟩
  sound gl P cfg nid op rho H h x hx := by
    split at h
    · rename_i T a c
      obtain ⟨h1, h2, h3⟩ := h
      obtain ⟨k, h2⟩ := intOf_some h2
      obtain ⟨e, e1, e2⟩ := elemSz_some h3
      split at hx
      · rename_i h0
        simp only [Option.some.injEq] at hx
        subst hx
        have hop : sliceA P T (rho a) (some (rho c)) none = some (.sl b ver n (o + lo.toNat) (m - lo.toNat)) := by
          unfold sliceA
          rw [h1, h2, e1]
          have hb : 0 ≤ lo ∧ lo ≤ (m : Int) := ⟨by omega, by omega⟩
          have hz : lo.toNat ≠ 0 := by omega
          have hl : lo.toNat < m := by omega
          simp only [lenA, boundA, hb, and_self, if_true, Option.bind_some, e2, if_neg hz, if_pos hl]
        simp [opPre, allocs, opA, hop, yields, Rd.bind, Rd.run, Rd.reads]
      · cases hx
    · exact h.elim

def eqz (i : Int) : Bool := decide (i = 0)
def ltn (i : Int) (m : Nat) : Bool := decide (i < m)

/-- All of it, told from 0. -/
def slcZ (m n b ver o : Nat) (lo : Int) : OpT Unit where
  run := if lo = 0 then some () else none
  eff _ := { val := .sl b ver n o m }
  ids := []
  chk gl P cfg nid op rho H := match op with
    | .slice T a (some l) none none => rho a = .sl b ver n o m ∧ intOf (rho l) = some lo ∧ elemSz P T = some n
    | _ => False
  claim := AVal.sl b ver n o m = AVal.sl b ver n o m ∧ some lo = some lo ∧ some n = some n
  holds := ⟨rfl, rfl, rfl⟩
  sound gl P cfg nid op rho H h x hx := by
    split at h
    · rename_i T a c
      obtain ⟨h1, h2, h3⟩ := h
      obtain ⟨k, h2⟩ := intOf_some h2
      obtain ⟨e, e1, e2⟩ := elemSz_some h3
      split at hx
      · rename_i h0
        subst h0
        have hop : sliceA P T (rho a) (some (rho c)) none = some (.sl b ver n o m) := by
          unfold sliceA
          rw [h1, h2, e1]
          have hb : (0 : Int) ≤ 0 ∧ (0 : Int) ≤ (m : Int) := ⟨by omega, by omega⟩
          simp only [lenA, boundA, hb, and_self, if_true, Option.bind_some, e2, Int.toNat_zero]
        simp [opPre, allocs, opA, hop, yields, Rd.bind, Rd.run, Rd.reads]
      · cases hx
    · exact h.elim

/-- Nothing, behind the end. -/
def slcE (m n b ver o : Nat) (lo : Int) : OpT Unit where
  run := if lo = m ∧ 0 < m then some () else none
  eff _ := { val := .lst [] }
  ids := []
  chk gl P cfg nid op rho H := match op with
    | .slice T a (some l) none none => rho a = .sl b ver n o m ∧ intOf (rho l) = some lo ∧ elemSz P T = some n
    | _ => False
  claim := AVal.sl b ver n o m = AVal.sl b ver n o m ∧ some lo = some lo ∧ some n = some n
  holds := ⟨rfl, rfl, rfl⟩
  sound gl P cfg nid op rho H h x hx := by
    split at h
    · rename_i T a c
      obtain ⟨h1, h2, h3⟩ := h
      obtain ⟨k, h2⟩ := intOf_some h2
      obtain ⟨e, e1, e2⟩ := elemSz_some h3
      split at hx
      · rename_i h0
        obtain ⟨rfl, h0⟩ := h0
        have hop : sliceA P T (rho a) (some (rho c)) none = some (.lst []) := by
          unfold sliceA
          rw [h1, h2, e1]
          have hb : (0 : Int) ≤ (m : Int) ∧ (m : Int) ≤ (m : Int) := ⟨by omega, by omega⟩
          have hz : ((m : Int)).toNat ≠ 0 := by omega
          have hl : ¬ ((m : Int)).toNat < m := by omega
          simp only [lenA, boundA, hb, and_self, if_true, Option.bind_some, e2, if_neg hz, if_neg hl]
        simp [opPre, allocs, opA, hop, yields, Rd.bind, Rd.run, Rd.reads]
      · cases hx
    · exact h.elim

/-- The address of an element of a part of a slice of our own. -/
def idxP (m n b ver o : Nat) (i : Int) : OpT Unit where
  run := if 0 ≤ i ∧ i < m then some () else none
  eff _ := { val := .ptr b ver (o + i.toNat) 0 }
  ids := []
  chk gl P cfg nid op rho H := match op with
    | .indexAddr T a c => rho a = .sl b ver n o m ∧ intOf (rho c) = some i ∧ elemSz P T = some n
    | _ => False
  claim := AVal.sl b ver n o m = AVal.sl b ver n o m ∧ some i = some i ∧ some n = some n
  holds := ⟨rfl, rfl, rfl⟩
  sound gl P cfg nid op rho H h x hx := by
    cases op <;> try exact h.elim
    rename_i T a c
    obtain ⟨h1, h2, h3⟩ := h
    obtain ⟨k, h2⟩ := intOf_some h2
    obtain ⟨e, e1, e2⟩ := elemSz_some h3
    split at hx
    · rename_i h0
      simp [opPre, allocs, opA, h2, h1, indexAddrA, e1, e2, h0.1, h0.2, yields, Rd.bind, Rd.run, Rd.reads]
    · cases hx

/-- A part of a slice of our own wiped out. -/
def clrP {X : Type} (l : List X) (d : X) (enc : X → List AVal) (m n b ver o : Nat) : OpT Unit where
  run := if o + m ≤ l.length then some () else none
  eff _ := { val := nothing, upd := [(b, .row ver n ((l.take o ++ List.replicate m d ++ l.drop (o + m)).map enc))] }
  ids := [b]
  chk gl P cfg nid op rho H := match op with
    | .call { callee := .builtin .clear, args, argTypes } => match argTypes[0]?, args[0]? with
      | some T, some s => rho s = .sl b ver n o m ∧ H[b]? = some (.row ver n (l.map enc)) ∧ decide (args.size = 1) = true ∧ (match P.underlying T with | some (.slice e) => zeroCellsA P e | _ => none) = some (enc d) ∧ (enc d).length = n
      | _, _ => False
    | _ => False
  claim := AVal.sl b ver n o m = AVal.sl b ver n o m ∧ some (ABlk.row ver n (l.map enc)) = some (ABlk.row ver n (l.map enc)) ∧ @Eq Bool true true ∧ some (enc d) = some (enc d) ∧ n = n
  holds := ⟨rfl, rfl, rfl, rfl, rfl⟩
  sound gl P cfg nid op rho H h x hx := by
    split at h
    · split at h
      · rename_i args argTypes _ _ T s hT hs
        obtain ⟨h1, h2, h3, h4, h5⟩ := h
        simp only [decide_eq_true_eq] at h3
        split at h4
        · rename_i e he
          split at hx
          · rename_i hle
            have hop : opPre P cfg nid rho (.call { callee := .builtin .clear, args := args, argTypes := argTypes }) = (clearA P T (rho s)).bind fun e => .done (.eff e) := by
              simp only [opPre, allocs, opA, hT, hs, h3, if_true, if_false, Bool.false_eq_true]
            rw [hop, h1]
            unfold clearA
            rw [he]
            simp only [h4, rowOf, Rd.bind, Rd.run, Rd.reads, h2, if_true, List.length_map]
            rw [if_pos ⟨trivial, hle, h5⟩]
            simp [Rd.bind, Rd.run, Rd.reads, List.map_take, List.map_drop]
          · cases hx
        · cases h4
      · exact h.elim
    · exact h.elim

/-- An operation on two numbers that is not always allowed. -/
def binO (op : BinOp) (k k' : IntKind) (a b : Int) (ok : Bool) (v : AVal) (h : ok = true → ∀ (P : Program) (T : TypeId), binA P op T (.sc (.int k a)) (.sc (.int k' b)) = some v) : OpT Unit where
  run := if ok then some () else none
  eff _ := { val := v }
  ids := []
  chk gl P cfg nid o rho H := match o with
    | .binOp op' T x y _ => op' = op ∧ rho x = .sc (.int k a) ∧ rho y = .sc (.int k' b) ∧ (match y with | .const (.int _ _) => true | .tmp _ => true | _ => false) = true
    | _ => False
  claim := op = op ∧ AVal.sc (.int k a) = AVal.sc (.int k a) ∧ AVal.sc (.int k' b) = AVal.sc (.int k' b) ∧ @Eq Bool true true
  holds := ⟨rfl, rfl, rfl, rfl⟩
  sound gl P cfg nid o rho H h' x hx := by
    cases o <;> try exact h'.elim
    rename_i op' T x y yT
    obtain ⟨rfl, h1, h2, h3⟩ := h'
    cases ok with
    | false => cases hx
    | true =>
      have hb := h rfl P T
      rw [← h1, ← h2] at hb
      split at h3
      · simp [opPre, allocs, opA, nilConst, hb, yields, Rd.bind, Rd.run, Rd.reads]
      · simp [opPre, allocs, opA, nilConst, hb, yields, Rd.bind, Rd.run, Rd.reads]
      · cases h3

def quoO (k : IntKind) (a b : Int) : OpT Unit := binO .quo k k a b (decide (b ≠ 0)) (.sc (.int k (k.wrap (a.tdiv b)))) fun h P T => by
  have : b ≠ 0 := by simpa using h
  simp [binA, intOp, this]
def remO (k : IntKind) (a b : Int) : OpT Unit := binO .rem k k a b (decide (b ≠ 0)) (.sc (.int k (a.tmod b))) fun h P T => by
  have : b ≠ 0 := by simpa using h
  simp [binA, intOp, this]
def shlO (k k' : IntKind) (a b : Int) : OpT Unit := binO .shl k k' a b (decide (0 ≤ b)) (.sc (.int k (k.wrap (a * 2 ^ (min b.toNat k.bits))))) fun h P T => by
  have : 0 ≤ b := by simpa using h
  simp only [binA]; rw [if_neg (by omega)]
def shrO (k k' : IntKind) (a b : Int) : OpT Unit := binO .shr k k' a b (decide (0 ≤ b)) (.sc (.int k (a.fdiv (2 ^ (min b.toNat k.bits))))) fun h P T => by
  have : 0 ≤ b := by simpa using h
  simp only [binA]; rw [if_neg (by omega)]

/-! ### Arrays in a variable of our own -/

/-- The size of an array's elements, and how many there are. -/
def arrInfo (P : Program) (T : TypeId) : Option (Nat × Nat) := match P.underlying T with
  | some (.array n e) => (sizeT P e).map fun s => (n, s)
  | _ => none

/-- The address of an element of an array. -/
def idxA (b ver j o n s : Nat) (i : Int) : OpT Unit where
  run := if 0 ≤ i ∧ i < n then some () else none
  eff _ := { val := .ptr b ver j (o + i.toNat * s) }
  ids := []
  chk gl P cfg nid op rho H := match op with
    | .indexAddr T a c => rho a = .ptr b ver j o ∧ intOf (rho c) = some i ∧ arrInfo P T = some (n, s)
    | _ => False
  claim := AVal.ptr b ver j o = AVal.ptr b ver j o ∧ some i = some i ∧ some (n, s) = some (n, s)
  holds := ⟨rfl, rfl, rfl⟩
  sound gl P cfg nid op rho H h x hx := by
    cases op <;> try exact h.elim
    rename_i T a c
    obtain ⟨h1, h2, h3⟩ := h
    obtain ⟨k, h2⟩ := intOf_some h2
    unfold arrInfo at h3
    split at h3
    · rename_i n' e hu
      obtain ⟨s', hs, he⟩ := Option.map_eq_some_iff.1 h3
      simp only [Prod.mk.injEq] at he
      obtain ⟨rfl, rfl⟩ := he
      split at hx
      · rename_i h0
        have hop : indexAddrA P T (rho a) i = some (.ptr b ver j (o + i.toNat * s')) := by
          rw [h1]; unfold indexAddrA; rw [hu]; simp only [if_pos h0, hs, Option.bind_some, offsetA]
        simp [opPre, allocs, opA, h2, hop, yields, Rd.bind, Rd.run, Rd.reads]
      · cases hx
    · cases h3

/-- An element of an array of plain cells. -/
def ldA {X : Type} (l : List X) (c : X → AVal) (b ver sz o : Nat) : OpT X where
  run := l[o]?
  eff x := { val := c x }
  ids := [b]
  chk gl P cfg nid op rho H := match op with
    | .load T a => rho a = .ptr b ver 0 o ∧ H[b]? = some (.row ver sz [l.map c]) ∧ aggT P T = false ∧ (P.underlying T).isSome = true
    | _ => False
  claim := AVal.ptr b ver 0 o = AVal.ptr b ver 0 o ∧ some (ABlk.row ver sz [l.map c]) = some (ABlk.row ver sz [l.map c]) ∧ @Eq Bool false false ∧ @Eq Bool true true
  holds := ⟨rfl, rfl, rfl, rfl⟩
  sound gl P cfg nid op rho H h x hx := by
    cases op <;> try exact h.elim
    rename_i T a
    obtain ⟨h1, h2, h3, h4⟩ := h
    simp [opPre, allocs, opA, h1, loadA, rowOf, h2, loadIn, h3, h4, hx, yields, Rd.bind, Rd.run, Rd.reads]

/-- An element of an array of plain cells given anew. -/
def stA {X : Type} (l : List X) (c : X → AVal) (b ver sz o : Nat) (y : X) : OpT Unit where
  run := if o < l.length then some () else none
  eff _ := { val := nothing, upd := [(b, .row ver sz [(l.set o y).map c])] }
  ids := [b]
  chk gl P cfg nid op rho H := match op with
    | .store T a v => rho a = .ptr b ver 0 o ∧ H[b]? = some (.row ver sz [l.map c]) ∧ cellsFor P T (rho v) = some [c y]
    | _ => False
  claim := AVal.ptr b ver 0 o = AVal.ptr b ver 0 o ∧ some (ABlk.row ver sz [l.map c]) = some (ABlk.row ver sz [l.map c]) ∧ some [c y] = some [c y]
  holds := ⟨rfl, rfl, rfl⟩
  sound gl P cfg nid op rho H h x hx := by
    cases op <;> try exact h.elim
    rename_i T a v
    obtain ⟨h1, h2, h3⟩ := h
    split at hx
    · rename_i h0
      have hle : o + 1 ≤ l.length := h0
      simp [opPre, allocs, opA, h1, storeA, rowOf, h2, h3, storeIn, hle, putAt, Rd.bind, Rd.run, Rd.reads, List.map_set]
    · cases hx

/-! ### Maps -/

section
variable {K V : Type}

/-- A map's entries, in the order in which they came. -/
def encM (ek : K → AVal) (ev : V → AVal) : Nat → List (K × V) → List (AVal × AVal × Nat)
  | _, [] => []
  | n, p :: ps => (ek p.1, ev p.2, n) :: encM ek ev (n + 1) ps

/-- The first entry with a key. -/
def findM (eq : K → K → Bool) (k : K) : List (K × V) → Nat → Option (Nat × V)
  | [], _ => none
  | p :: ps, i => if eq k p.1 then some (i, p.2) else findM eq k ps (i + 1)

/-- An entry given anew. -/
def putM (eq : K → K → Bool) (k : K) (v : V) (m : List (K × V)) : List (K × V) := match findM eq k m 0 with
  | some (i, _) => m.set i (k, v)
  | none => m ++ [(k, v)]

theorem findA_encM {ks : List Kd} {ag : Bool} {ek : K → AVal} {ev : V → AVal} {eq : K → K → Bool} (hag : ∀ k, isAggA (ek k) = ag) (heq : ∀ k k', eqCells ks (ek k).cells (ek k').cells = some (eq k k')) (k : K) :
    ∀ (m : List (K × V)) (n i : Nat), findA ks ag (ek k) (encM ek ev n m) i = some ((findM eq k m i).map fun p => (p.1, ev p.2, n + (p.1 - i)))
  | [], n, i => rfl
  | p :: ps, n, i => by
    simp only [encM, findA, hag, if_true, heq, findM]
    cases h : eq k p.1 with
    | true => simp
    | false =>
      simp only [Bool.false_eq_true, if_false]
      rw [findA_encM hag heq k ps (n + 1) (i + 1)]
      congr 1
      have hge : ∀ (m : List (K × V)) (i : Nat) (q : Nat × V), findM eq k m i = some q → i ≤ q.1 := by
        intro m
        induction m with
        | nil => intro i q h; simp [findM] at h
        | cons p ps ih =>
          intro i q h
          simp only [findM] at h
          split at h
          · simp at h; subst h; exact Nat.le_refl _
          · have := ih _ _ h; omega
      cases hf : findM eq k ps (i + 1) with
      | none => rfl
      | some q =>
        have := hge _ _ _ hf
        simp only [Option.map_some, Option.some.injEq, Prod.mk.injEq, true_and]
        omega

theorem encM_length (ek : K → AVal) (ev : V → AVal) : ∀ (m : List (K × V)) (n : Nat), (encM ek ev n m).length = m.length
  | [], _ => rfl
  | _ :: ps, n => by simp [encM, encM_length ek ev ps]

theorem encM_append (ek : K → AVal) (ev : V → AVal) : ∀ (m m' : List (K × V)) (n : Nat), encM ek ev n (m ++ m') = encM ek ev n m ++ encM ek ev (n + m.length) m'
  | [], m', n => by simp [encM]
  | p :: ps, m', n => by simp [encM, encM_append ek ev ps, Nat.add_assoc, Nat.add_comm 1]

theorem encM_set (ek : K → AVal) (ev : V → AVal) : ∀ (m : List (K × V)) (n i : Nat) (p : K × V), encM ek ev n (m.set i p) = (encM ek ev n m).set i (ek p.1, ev p.2, n + i)
  | [], n, i, p => rfl
  | q :: ps, n, 0, p => by simp [encM]
  | q :: ps, n, i + 1, p => by simp [encM, encM_set ek ev ps, Nat.add_assoc, Nat.add_comm 1]

/-- What a map's type says. -/
def mapTy (P : Program) (T : TypeId) : Option (Option (List Kd) × Bool × Option AVal) := match P.underlying T with
  | some (.map K E) => some (kindsOf P 9 K, aggT P K, zeroA P E)
  | _ => none

/-- A look into a map of our own. -/
def mgetO (m : List (K × V)) (k : K) (ek : K → AVal) (ev : V → AVal) (eq : K → K → Bool) (d : V) (ks : List Kd) (ag ok : Bool) (b : Nat) : OpT Unit where
  run := some ()
  eff _ := { val := match ok with
    | true => .tup [ev (((findM eq k m 0).map (·.2)).getD d), .sc (.bool (findM eq k m 0).isSome)]
    | false => ev (((findM eq k m 0).map (·.2)).getD d) }
  ids := [b]
  chk gl P cfg nid op rho H := match op with
    | .lookup T x i ok' => ok' = ok ∧ rho x = .mp b ∧ rho i = ek k ∧ H[b]? = some (.map m.length (encM ek ev 0 m)) ∧ mapTy P T = some (some ks, ag, some (ev d)) ∧ (∀ k, isAggA (ek k) = ag) ∧ ∀ k k', eqCells ks (ek k).cells (ek k').cells = some (eq k k')
    | _ => False
  claim := ok = ok ∧ AVal.mp b = AVal.mp b ∧ ek k = ek k ∧ some (ABlk.map m.length (encM ek ev 0 m)) = some (ABlk.map m.length (encM ek ev 0 m)) ∧ some (some ks, ag, some (ev d)) = some (some ks, ag, some (ev d)) ∧ (∀ _ : K, ag = ag) ∧ ∀ k k', some (eq k k') = some (eq k k')
  holds := ⟨rfl, rfl, rfl, rfl, rfl, fun _ => rfl, fun _ _ => rfl⟩
  sound gl P cfg nid op rho H h x hx := by
    cases op <;> try exact h.elim
    rename_i T a i ok'
    obtain ⟨rfl, h1, h2, h3, h4, h5, h6⟩ := h
    unfold mapTy at h4
    split at h4
    · rename_i TK TE hu
      simp only [Option.some.injEq, Prod.mk.injEq] at h4
      obtain ⟨t1, t2, t3⟩ := h4
      have hk : keyKinds P TK (ek k) = some ks := by simp [keyKinds, t1, h5, t2]
      have hf := findA_encM (ev := ev) (eq := eq) h5 h6 k m 0 0
      simp only [opPre, allocs, opA, lookupA, hu, h2, hk, h1, mapOf, Rd.bind, Rd.run, Rd.reads, h3, h6, t2, hf, t3, if_false, Bool.false_eq_true]
      cases hfm : findM eq k m 0 with
      | none => cases ok' <;> simp [Rd.bind, Rd.run, Rd.reads]
      | some q => cases ok' <;> simp [Rd.bind, Rd.run, Rd.reads]
    · cases h4

/-- An entry of a map of our own given anew. -/
def msetO (m : List (K × V)) (k : K) (v : V) (ek : K → AVal) (ev : V → AVal) (eq : K → K → Bool) (ks : List Kd) (ag : Bool) (b : Nat) : OpT Unit where
  run := some ()
  eff _ := { val := nothing, upd := [(b, .map (putM eq k v m).length (encM ek ev 0 (putM eq k v m)))] }
  ids := [b]
  chk gl P cfg nid op rho H := match op with
    | .mapUpdate T x i y => rho x = .mp b ∧ rho i = ek k ∧ rho y = ev v ∧ H[b]? = some (.map m.length (encM ek ev 0 m)) ∧ (mapTy P T).map (fun t => (t.1, t.2.1)) = some (some ks, ag) ∧ (∀ k, isAggA (ek k) = ag) ∧ ∀ k k', eqCells ks (ek k).cells (ek k').cells = some (eq k k')
    | _ => False
  claim := AVal.mp b = AVal.mp b ∧ ek k = ek k ∧ ev v = ev v ∧ some (ABlk.map m.length (encM ek ev 0 m)) = some (ABlk.map m.length (encM ek ev 0 m)) ∧ some (some ks, ag) = some (some ks, ag) ∧ (∀ _ : K, ag = ag) ∧ ∀ k k', some (eq k k') = some (eq k k')
  holds := ⟨rfl, rfl, rfl, rfl, rfl, fun _ => rfl, fun _ _ => rfl⟩
  sound gl P cfg nid op rho H h x hx := by
    cases op <;> try exact h.elim
    rename_i T a i y
    obtain ⟨h1, h2, hy, h3, h4, h5, h6⟩ := h
    obtain ⟨t, h4, ht⟩ := Option.map_eq_some_iff.1 h4
    unfold mapTy at h4
    split at h4
    · rename_i TK TE hu
      simp only [Option.some.injEq] at h4
      subst h4
      simp only [Prod.mk.injEq] at ht
      obtain ⟨t1, t2⟩ := ht
      have hk : keyKinds P TK (ek k) = some ks := by simp [keyKinds, t1, h5, t2]
      have hf := findA_encM (ev := ev) (eq := eq) h5 h6 k m 0 0
      simp only [opPre, allocs, opA, mapUpdateA, hu, h2, hk, h1, mapOf, Rd.bind, Rd.run, Rd.reads, h3, h6, t2, hf, hy, if_false, Bool.false_eq_true]
      cases hfm : findM eq k m 0 with
      | none => simp [Rd.bind, Rd.run, Rd.reads, putM, hfm, encM_append, encM]
      | some q => simp [Rd.bind, Rd.run, Rd.reads, putM, hfm, encM_set, encM_length]
    · cases h4

end

end

/-! ### How plain data read -/

def cI (k : IntKind) (n : Int) : AVal := .sc (.int k n)
def cB (b : Bool) : AVal := .sc (.bool b)
def cS (s : ByteArray) : AVal := .sc (.string s)
def cL {α : Type} (enc : α → List AVal) (l : List α) : AVal := .lst (l.map enc)
def eI (k : IntKind) (n : Int) : List AVal := [.sc (.int k n)]
def eB (b : Bool) : List AVal := [.sc (.bool b)]
def eS (s : ByteArray) : List AVal := [.sc (.string s)]
def eL {α : Type} (enc : α → List AVal) (l : List α) : List AVal := [.lst (l.map enc)]

structure V2 (α : Type) where
  (a0 a1 : α)
def eV2 {α : Type} (c : α → AVal) (x : V2 α) : List AVal := [c x.a0, c x.a1]
structure V3 (α : Type) where
  (a0 a1 a2 : α)
def eV3 {α : Type} (c : α → AVal) (x : V3 α) : List AVal := [c x.a0, c x.a1, c x.a2]
structure V4 (α : Type) where
  (a0 a1 a2 a3 : α)
def eV4 {α : Type} (c : α → AVal) (x : V4 α) : List AVal := [c x.a0, c x.a1, c x.a2, c x.a3]
structure V5 (α : Type) where
  (a0 a1 a2 a3 a4 : α)
def eV5 {α : Type} (c : α → AVal) (x : V5 α) : List AVal := [c x.a0, c x.a1, c x.a2, c x.a3, c x.a4]
structure V6 (α : Type) where
  (a0 a1 a2 a3 a4 a5 : α)
def eV6 {α : Type} (c : α → AVal) (x : V6 α) : List AVal := [c x.a0, c x.a1, c x.a2, c x.a3, c x.a4, c x.a5]
structure V7 (α : Type) where
  (a0 a1 a2 a3 a4 a5 a6 : α)
def eV7 {α : Type} (c : α → AVal) (x : V7 α) : List AVal := [c x.a0, c x.a1, c x.a2, c x.a3, c x.a4, c x.a5, c x.a6]
structure V8 (α : Type) where
  (a0 a1 a2 a3 a4 a5 a6 a7 : α)
def eV8 {α : Type} (c : α → AVal) (x : V8 α) : List AVal := [c x.a0, c x.a1, c x.a2, c x.a3, c x.a4, c x.a5, c x.a6, c x.a7]
structure V9 (α : Type) where
  (a0 a1 a2 a3 a4 a5 a6 a7 a8 : α)
def eV9 {α : Type} (c : α → AVal) (x : V9 α) : List AVal := [c x.a0, c x.a1, c x.a2, c x.a3, c x.a4, c x.a5, c x.a6, c x.a7, c x.a8]
structure V10 (α : Type) where
  (a0 a1 a2 a3 a4 a5 a6 a7 a8 a9 : α)
def eV10 {α : Type} (c : α → AVal) (x : V10 α) : List AVal := [c x.a0, c x.a1, c x.a2, c x.a3, c x.a4, c x.a5, c x.a6, c x.a7, c x.a8, c x.a9]
structure V11 (α : Type) where
  (a0 a1 a2 a3 a4 a5 a6 a7 a8 a9 a10 : α)
def eV11 {α : Type} (c : α → AVal) (x : V11 α) : List AVal := [c x.a0, c x.a1, c x.a2, c x.a3, c x.a4, c x.a5, c x.a6, c x.a7, c x.a8, c x.a9, c x.a10]
structure V12 (α : Type) where
  (a0 a1 a2 a3 a4 a5 a6 a7 a8 a9 a10 a11 : α)
def eV12 {α : Type} (c : α → AVal) (x : V12 α) : List AVal := [c x.a0, c x.a1, c x.a2, c x.a3, c x.a4, c x.a5, c x.a6, c x.a7, c x.a8, c x.a9, c x.a10, c x.a11]

theorem pureRow {X : Type} (l : List X) (enc : X → List AVal) (h : ∀ x, AVal.pureL (enc x) = true) : (l.map enc).all AVal.pureL = true := by
  simp only [List.all_map, List.all_eq_true]
  intro x _
  exact h x

def puRow {X : Type} (b ver sz : Nat) (l : List X) (enc : X → List AVal) (h : ∀ x, AVal.pureL (enc x) = true) : PU := ⟨b, .row ver sz (l.map enc), pureRow l enc h⟩

theorem pureMap {K V : Type} (ek : K → AVal) (ev : V → AVal) (h : ∀ k, (ek k).pure = true) (h' : ∀ v, (ev v).pure = true) : ∀ (m : List (K × V)) (n : Nat), (encM ek ev n m).all (fun p => p.1.pure && p.2.1.pure) = true
  | [], _ => rfl
  | p :: ps, n => by simp [encM, h, h', pureMap ek ev h h' ps (n + 1)]

def puMap {K V : Type} (b : Nat) (m : List (K × V)) (ek : K → AVal) (ev : V → AVal) (h : ∀ k, (ek k).pure = true) (h' : ∀ v, (ev v).pure = true) : PU := ⟨b, .map m.length (encM ek ev 0 m), pureMap ek ev h h' m 0⟩

def fzRow {X : Type} (p : Pl) (b ver sz n : Nat) (l : List X) (enc : X → List AVal) (h : ∀ x, AVal.pureL (enc x) = true) : FZ := ⟨p, b, ver, sz, n, l.map enc, pureRow l enc h⟩

def puArr {X : Type} (b ver sz : Nat) (l : List X) (c : X → AVal) (h : ∀ x, (c x).pure = true) : PU := ⟨b, .row ver sz [l.map c], by
  have : ∀ l : List X, AVal.pureL (l.map c) = true := by
    intro l
    induction l with
    | nil => rfl
    | cons x xs ih => simp only [List.map_cons, AVal.pureL, h, ih, Bool.and_self]
  simp [pureBlk, this]⟩

def prRow {X : Type} (b ver sz : Nat) (l : List X) (enc : X → List AVal) (h : ∀ x, AVal.pureL (enc x) = true) : PR := PR.ofRow b ver sz (l.map enc) (pureRow l enc h)

def prMap {K V : Type} (b : Nat) (m : List (K × V)) (ek : K → AVal) (ev : V → AVal) (h : ∀ k, (ek k).pure = true) (h' : ∀ v, (ev v).pure = true) : PR := ⟨b, .map m.length (encM ek ev 0 m), pureMap ek ev h h' m 0⟩

end Go.AM
