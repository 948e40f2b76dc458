/- The invariant that ties the abstract machine's blocks to the machine's memory, and how it goes on behind a new block, a store, an append. No program. -/
import Derived.Test.YtbfglcegmhgjdaaGreatDoorAmB
namespace Go.AM

/-- Cells of ours, in a concrete block's cells, from a place on. -/
def CellsAt (g : Gh) (w : World) (c : Array Value) : List AVal → Nat → Prop
  | [], _ => True
  | a :: as, o => (∃ y, c[o]? = some y ∧ y.oneCell' = true ∧ R g w a y) ∧ CellsAt g w c as (o + 1)
def RowsAt (g : Gh) (w : World) (c : Array Value) (sz : Nat) : List (List AVal) → Nat → Prop
  | [], _ => True
  | r :: rs, o => (r.length = sz ∧ CellsAt g w c r o) ∧ RowsAt g w c sz rs (o + sz)

/-- The entries of a map. -/
def EntsAt (g : Gh) (w : World) : List (AVal × AVal × Nat) → List MapEntry → Prop
  | [], es => es = []
  | p :: ps, es => ∃ e es', es = e :: es' ∧ R g w p.1 e.key ∧ R g w p.2.1 e.val ∧ e.born = p.2.2 ∧ EntsAt g w ps es'

/-- A row of a block of the machine's. -/
def RowGood (g : Gh) (w : World) (b ver sz : Nat) (rows : List (List AVal)) : Prop :=
  ∃ k c e, g.rho b ver = some (k, sz) ∧ w.heap[k]? = some (.cells c e (0, 0)) ∧ RowsAt g w c sz rows 0 ∧ rows.length * sz ≤ c.size ∧ 0 < sz

/-- The machine's block is what ours says. A row without elements need not be there yet. -/
def Good (g : Gh) (w : World) (b : Nat) : ABlk → Prop
  | .row ver sz rows => RowGood g w b ver sz rows ∨ (rows = [] ∧ g.rho b ver = none ∧ 0 < sz)
  | .map clock es => ∃ k ents, g.rho b 0 = some (k, 0) ∧ w.heap[k]? = some (.map ents clock) ∧ EntsAt g w es ents.toList
  | .loop st pend _ A ps assign body => ∃ k tmps dk fn, g.rho b 0 = some (k, 0) ∧
      w.heap[k]? = some (.loop { state := st, pending := pend, fn := fn, tmps := tmps, params := ps.toArray, assign := assign, body := body, defers := dk }) ∧ RL g w A tmps.toList
  | .defs => ∃ k, g.rho b 0 = some (k, 0) ∧ w.heap[k]? = some (.deferred (some []))
  | .iter m since seen stepped => ∃ k mo, g.rho b 0 = some (k, 0) ∧ w.heap[k]? = some (.mapIter mo since seen.toArray stepped) ∧ R g w m (.map mo)
  | _ => True

/-- The variables hold what is said of them. -/
def GlobsOk [gl : Globs] (g : Gh) (w : World) : Prop := ∀ i cs, gl.default.cells i = some cs → AVal.pureL cs = true ∧ RC g w cs i 0

theorem GlobsOk.mono [Globs] {g g' : Gh} {w w' : World} (hg : GlobsOk g w) (h : Ext g w g' w') : GlobsOk g' w' :=
  fun i cs hi => ⟨(hg i cs hi).1, RC_mono h _ _ _ (hg i cs hi).2⟩

structure Inv [Globs] (g : Gh) (H : List ABlk) (w : World) : Prop where
  good : ∀ b x, H[b]? = some x → Good g w b x
  inj : ∀ b b' x x' v v' k z z', H[b]? = some x → H[b']? = some x' → x.live = some v → x'.live = some v' → g.rho b v = some (k, z) → g.rho b' v' = some (k, z') → b = b'
  fresh : ∀ b ver, (H[b]? = some .unborn ∨ H.length ≤ b) → g.rho b ver = none
  next : ∀ b x v ver', H[b]? = some x → x.live = some v → v < ver' → g.rho b ver' = none
  free : ∀ b x v k z o, H[b]? = some x → x.live = some v → g.rho b v = some (k, z) → ¬ g.st k o
  stold : ∀ k o, g.st k o → k < w.heap.size
  globs : GlobsOk g w

section
variable [Globs]
set_option linter.unusedSectionVars false

theorem Inv.row {g : Gh} {H : List ABlk} {w : World} (hi : Inv g H w) (b ver sz : Nat) (rows : List (List AVal)) (h : H[b]? = some (.row ver sz rows)) {kz : Nat × Nat} (hkz : g.rho b ver = some kz) : ∃ k c e, g.rho b ver = some (k, sz) ∧ w.heap[k]? = some (.cells c e (0, 0)) ∧ RowsAt g w c sz rows 0 ∧ rows.length * sz ≤ c.size ∧ 0 < sz ∧ ∀ o, ¬ g.st k o := by
  rcases hi.good b _ h with ⟨k, c, e, h1, h2, h3, h4, h5⟩ | ⟨_, h1, _⟩
  · exact ⟨k, c, e, h1, h2, h3, h4, h5, fun o => hi.free b _ ver k sz o h rfl h1⟩
  · rw [hkz] at h1; cases h1

/-- A block that is alive lies in memory. -/
theorem Inv.lies {g : Gh} {H : List ABlk} {w : World} (hi : Inv g H w) {b : Nat} {x : ABlk} {v k z : Nat} (h : H[b]? = some x) (hv : x.live = some v) (hk : g.rho b v = some (k, z)) : k < w.heap.size := by
  have hg := hi.good b x h
  cases x with
  | unborn => cases hv
  | dead => cases hv
  | row ver sz rows =>
    simp [ABlk.live] at hv; subst hv
    rcases hg with ⟨k', c, e, h1, h2, _⟩ | ⟨_, h1, _⟩
    · grind
    · rw [hk] at h1; cases h1
  | map clock es =>
    simp [ABlk.live] at hv; subst hv
    obtain ⟨k', c, h1, h2, _⟩ := hg
    grind
  | loop st pend fid A ps assign body =>
    simp [ABlk.live] at hv; subst hv
    obtain ⟨k', c, dk, fn, h1, h2, _⟩ := hg
    grind
  | defs =>
    simp [ABlk.live] at hv; subst hv
    obtain ⟨k', h1, h2⟩ := hg
    grind
  | iter m since seen stepped =>
    simp [ABlk.live] at hv; subst hv
    obtain ⟨k', mo, h1, h2, _⟩ := hg
    grind

def Owned (g : Gh) (H : List ABlk) (k : Nat) : Prop := ∃ b x v z, H[b]? = some x ∧ x.live = some v ∧ g.rho b v = some (k, z)

structure Later (g : Gh) (H : List ABlk) (w : World) (g' : Gh) (H' : List ABlk) (w' : World) : Prop where
  ext : Ext g w g' w'
  size : w.heap.size ≤ w'.heap.size
  keep : ∀ k, k < w.heap.size → ¬ Owned g H k → w'.heap[k]? = w.heap[k]?
  own : ∀ k, k < w.heap.size → Owned g' H' k → Owned g H k
  len : H.length ≤ H'.length
  os : w'.os = w.os
  tape : w'.tape = w.tape ∧ w.drawn ≤ w'.drawn
  output : w'.output = w.output
  stk : ∀ k o, k < w.heap.size → g'.st k o → g.st k o ∨ (Owned g H k ∧ ¬ Owned g' H' k)
  deadk : ∀ b, H[b]? = some .dead → H'[b]? = some .dead ∧ ∀ ver, g'.rho b ver = g.rho b ver
  newk : ∀ b ver k z, g'.rho b ver = some (k, z) → (∃ ver' z', g.rho b ver' = some (k, z')) ∨ w.heap.size ≤ k

theorem Later.refl (g : Gh) (H : List ABlk) (w : World) : Later g H w g H w :=
  ⟨Ext.refl g w, Nat.le_refl _, fun _ _ _ => rfl, fun _ _ h => h, Nat.le_refl _, rfl, ⟨rfl, Nat.le_refl _⟩, rfl, fun _ _ _ h => .inl h, fun _ h => ⟨h, fun _ => rfl⟩, fun _ ver _ z h => .inl ⟨ver, z, h⟩⟩

theorem Later.trans {g g1 g2 : Gh} {H H1 H2 : List ABlk} {w w1 w2 : World} (h : Later g H w g1 H1 w1) (h' : Later g1 H1 w1 g2 H2 w2) : Later g H w g2 H2 w2 := by
  refine ⟨h.ext.trans h'.ext, Nat.le_trans h.size h'.size, fun k hk ho => ?_, fun k hk ho => ?_, Nat.le_trans h.len h'.len, h'.os.trans h.os, ⟨h'.tape.1.trans h.tape.1, Nat.le_trans h.tape.2 h'.tape.2⟩, h'.output.trans h.output, fun k o hk ho => ?_, fun b hb => ?_, fun b ver k z hk => ?_⟩
  · have h1 := h'.keep k (Nat.lt_of_lt_of_le hk h.size) (fun o1 => ho (h.own k hk o1))
    exact h1.trans (h.keep k hk ho)
  · exact h.own k hk (h'.own k (Nat.lt_of_lt_of_le hk h.size) ho)
  · have hk1 := Nat.lt_of_lt_of_le hk h.size
    rcases h'.stk k o hk1 ho with h1 | ⟨h1, h2⟩
    · rcases h.stk k o hk h1 with h3 | ⟨h3, h4⟩
      · exact .inl h3
      · exact .inr ⟨h3, fun h5 => h4 (h'.own k hk1 h5)⟩
    · exact .inr ⟨h.own k hk h1, h2⟩
  · obtain ⟨h1, h2⟩ := h.deadk b hb
    obtain ⟨h3, h4⟩ := h'.deadk b h1
    grind
  · rcases h'.newk b ver k z hk with ⟨v1, z1, h1⟩ | h1
    · exact h.newk b v1 k z1 h1
    · exact .inr (Nat.le_trans h.size h1)

theorem cell?_of_heap {w w' : World} {k : Nat} (h : w'.heap[k]? = w.heap[k]?) (o : Nat) : w'.cell? ⟨k, o, none⟩ = w.cell? ⟨k, o, none⟩ := by
  simp [World.cell?, h]

theorem cell?_cells {w : World} {k o : Nat} {c : Array Value} {e : TypeId} {z : Nat × Nat} (h : w.heap[k]? = some (.cells c e z)) : w.cell? ⟨k, o, none⟩ = c[o]? := by
  simp [World.cell?, h]

section
variable {g g' : Gh} {w w' : World} (h : Ext g w g' w')
include h
theorem CellsAt_mono {c : Array Value} : ∀ (l : List AVal) (o : Nat), CellsAt g w c l o → CellsAt g' w' c l o
  | [], _, _ => trivial
  | a :: as, o, hr => by
    obtain ⟨⟨y, h1, h2, h3⟩, h4⟩ := hr
    exact ⟨⟨y, h1, h2, R_mono h a y h3⟩, CellsAt_mono as (o + 1) h4⟩
theorem RowsAt_mono {c : Array Value} {sz : Nat} : ∀ (l : List (List AVal)) (o : Nat), RowsAt g w c sz l o → RowsAt g' w' c sz l o
  | [], _, _ => trivial
  | r :: rs, o, hr => by
    obtain ⟨⟨h1, h2⟩, h3⟩ := hr
    exact ⟨⟨h1, CellsAt_mono h r o h2⟩, RowsAt_mono rs (o + sz) h3⟩
end

theorem EntsAt_mono {g g' : Gh} {w w' : World} (h : Ext g w g' w') : ∀ (l : List (AVal × AVal × Nat)) (es : List MapEntry), EntsAt g w l es → EntsAt g' w' l es
  | [], _, hr => hr
  | p :: ps, es, hr => by
    obtain ⟨e, es', rfl, h1, h2, hb, h3⟩ := hr
    exact ⟨e, es', rfl, R_mono h _ _ h1, R_mono h _ _ h2, hb, EntsAt_mono h ps es' h3⟩

/-- A block goes on where its own place has not been touched. -/
theorem Good_mono {g g' : Gh} {w w' : World} (h : Ext g w g' w') {b : Nat} {x : ABlk} (hx : Good g w b x) (hk : ∀ v k z, x.live = some v → g.rho b v = some (k, z) → w'.heap[k]? = w.heap[k]?)
    (hn : ∀ v, x.live = some v → g.rho b v = none → g'.rho b v = none) : Good g' w' b x := by
  cases x with
  | unborn => trivial
  | dead => trivial
  | row ver sz rows =>
    rcases hx with ⟨k, c, e, h1, h2, h3, h4⟩ | ⟨h1, h2, h3⟩
    · exact .inl ⟨k, c, e, h.rho _ _ _ h1, (hk _ _ _ rfl h1).trans h2, RowsAt_mono h rows 0 h3, h4⟩
    · exact .inr ⟨h1, hn _ rfl h2, h3⟩
  | map clock es =>
    obtain ⟨k, ents, h1, h2, h3⟩ := hx
    exact ⟨k, ents, h.rho _ _ _ h1, (hk _ _ _ rfl h1).trans h2, EntsAt_mono h es _ h3⟩
  | loop st pend fid A ps assign body =>
    obtain ⟨k, tmps, dk, fn, h1, h2, h3⟩ := hx
    exact ⟨k, tmps, dk, fn, h.rho _ _ _ h1, (hk _ _ _ rfl h1).trans h2, RL_mono h _ _ h3⟩
  | defs =>
    obtain ⟨k, h1, h2⟩ := hx
    exact ⟨k, h.rho _ _ _ h1, (hk _ _ _ rfl h1).trans h2⟩
  | iter m since seen stepped =>
    obtain ⟨k, mo, h1, h2, h3⟩ := hx
    exact ⟨k, mo, h.rho _ _ _ h1, (hk _ _ _ rfl h1).trans h2, R_mono h _ _ h3⟩

/-- The same cells elsewhere. -/
theorem CellsAt_congr {g : Gh} {w : World} {c c' : Array Value} : ∀ (l : List AVal) (o o' : Nat), (∀ j, j < l.length → c'[o' + j]? = c[o + j]?) → CellsAt g w c l o → CellsAt g w c' l o'
  | [], _, _, _, _ => trivial
  | a :: as, o, o', hc, hr => by
    obtain ⟨⟨y, h1, h2, h3⟩, h4⟩ := hr
    refine ⟨⟨y, ?_, h2, h3⟩, CellsAt_congr as (o + 1) (o' + 1) (fun j hj => ?_) h4⟩
    · have := hc 0 (by simp); simpa [h1] using this
    · have := hc (j + 1) (by simp; omega)
      grind

theorem RowsAt_congr {g : Gh} {w : World} {c c' : Array Value} {sz : Nat} : ∀ (l : List (List AVal)) (o o' : Nat), (∀ j, j < l.length * sz → c'[o' + j]? = c[o + j]?) → RowsAt g w c sz l o → RowsAt g w c' sz l o'
  | [], _, _, _, _ => trivial
  | r :: rs, o, o', hc, hr => by
    obtain ⟨⟨h1, h2⟩, h3⟩ := hr
    have hm : (r :: rs).length * sz = rs.length * sz + sz := by simp [Nat.add_mul]
    refine ⟨⟨h1, CellsAt_congr r o o' (fun j hj => hc j (by rw [hm]; omega)) h2⟩, RowsAt_congr rs (o + sz) (o' + sz) (fun j hj => ?_) h3⟩
    have := hc (sz + j) (by rw [hm]; omega)
    simpa [Nat.add_assoc] using this

theorem CellsAt_get {g : Gh} {w : World} {c : Array Value} : ∀ (l : List AVal) (o j : Nat) (a : AVal), CellsAt g w c l o → l[j]? = some a → ∃ y, c[o + j]? = some y ∧ y.oneCell' = true ∧ R g w a y
  | [], _, _, _, _, hj => by simp at hj
  | b :: bs, o, 0, a, hr, hj => by
    simp at hj; subst hj
    exact hr.1
  | b :: bs, o, j + 1, a, hr, hj => by
    have := CellsAt_get bs (o + 1) j a hr.2 (by simpa using hj)
    grind

theorem RowsAt_get {g : Gh} {w : World} {c : Array Value} {sz : Nat} : ∀ (l : List (List AVal)) (o j : Nat) (r : List AVal), RowsAt g w c sz l o → l[j]? = some r → r.length = sz ∧ CellsAt g w c r (o + j * sz)
  | [], _, _, _, _, hj => by simp at hj
  | b :: bs, o, 0, a, hr, hj => by
    simp at hj; subst hj
    simpa using hr.1
  | b :: bs, o, j + 1, a, hr, hj => by
    have := RowsAt_get bs (o + sz) j a hr.2 (by simpa using hj)
    grind

/-- Built up out of the cells themselves. -/
theorem CellsAt_of {g : Gh} {w : World} {c : Array Value} : ∀ (l : List AVal) (o : Nat), (∀ j a, l[j]? = some a → ∃ y, c[o + j]? = some y ∧ y.oneCell' = true ∧ R g w a y) → CellsAt g w c l o
  | [], _, _ => trivial
  | a :: as, o, hc => ⟨by have := hc 0 a (by simp); simpa using this, CellsAt_of as (o + 1) fun j b hb => by
      have := hc (j + 1) b (by simpa using hb)
      grind⟩

theorem RowsAt_of {g : Gh} {w : World} {c : Array Value} {sz : Nat} : ∀ (l : List (List AVal)) (o : Nat), (∀ j r, l[j]? = some r → r.length = sz ∧ CellsAt g w c r (o + j * sz)) → RowsAt g w c sz l o
  | [], _, _ => trivial
  | r :: rs, o, hc => ⟨by have := hc 0 r (by simp); simpa using this, RowsAt_of rs (o + sz) fun j b hb => by
      have := hc (j + 1) b (by simpa using hb)
      grind⟩

theorem RowsAt_take {g : Gh} {w : World} {c : Array Value} {sz : Nat} {l : List (List AVal)} {o : Nat} (h : RowsAt g w c sz l o) (n : Nat) : RowsAt g w c sz (l.take n) o :=
  RowsAt_of _ _ fun j r hr => by
    grind [RowsAt_get]

theorem RL_get {g : Gh} {w : World} : ∀ (l : List AVal) (vs : List Value), RL g w l vs → vs.length = l.length ∧ ∀ (j : Nat) (a : AVal), l[j]? = some a → ∃ y, vs[j]? = some y ∧ R g w a y
  | [], vs, h => by simp only [RL] at h; subst h; simp
  | a :: as, vs, h => by
    simp only [RL] at h
    obtain ⟨x, xs, rfl, h1, h2⟩ := h
    obtain ⟨h3, h4⟩ := RL_get as xs h2
    grind

theorem RL_of {g : Gh} {w : World} : ∀ (l : List AVal) (vs : List Value), vs.length = l.length → (∀ (j : Nat) (a : AVal) (y : Value), l[j]? = some a → vs[j]? = some y → R g w a y) → RL g w l vs
  | [], vs, h, _ => by grind [RL]
  | a :: as, [], h, _ => by simp at h
  | a :: as, x :: xs, h, hc => by
    simp only [RL]
    exact ⟨x, xs, rfl, hc 0 a x (by simp) (by simp), RL_of as xs (by simpa using h) fun j b y hb hy => hc (j + 1) b y (by simpa using hb) (by simpa using hy)⟩

theorem RL_append {g : Gh} {w : World} {a b : List AVal} {x y : List Value} (h : RL g w a x) (h' : RL g w b y) : RL g w (a ++ b) (x ++ y) := by
  induction a generalizing x with
  | nil => grind [RL]
  | cons c cs ih =>
    grind [RL]

theorem RL_sc {g : Gh} {w : World} : ∀ (vs : List Value), RL g w (vs.map .sc) vs
  | [] => by simp [RL]
  | v :: vs => by simp only [List.map_cons, RL]; exact ⟨v, vs, rfl, by simp [R], RL_sc vs⟩

theorem R_ofValue {g : Gh} {w : World} (v : Value) : R g w (AVal.ofValue v) v := by
  cases v <;> simp only [AVal.ofValue]
  case agg cs =>
    grind [R, RL_sc]
  case tuple cs => grind [R, RL_sc]
  all_goals simp [R]

/-! ### A new block -/

def World.push' (w : World) (o : Obj) : World := w.alloc o

theorem getElem?_setB {H : List ABlk} {b b' : Nat} {x y : ABlk} (h : (H.set b x)[b']? = some y) : (b' = b ∧ y = x ∧ b < H.length) ∨ (b' ≠ b ∧ H[b']? = some y) := by
  grind

def Gh.born (g : Gh) (b ver : Nat) (x : Nat × Nat) : Gh := { g with rho := fun b' ver' => if b' = b ∧ ver' = ver then some x else g.rho b' ver' }

theorem Ext.born {g : Gh} {w w' : World} {b ver : Nat} {x : Nat × Nat} (hf : g.rho b ver = none) (hc : ∀ k o, g.st k o → w'.cell? ⟨k, o, none⟩ = w.cell? ⟨k, o, none⟩) (hs : ∀ k x, w.shape? k = some x → w'.shape? k = some x) : Ext g w (g.born b ver x) w' := by
  refine ⟨fun b' ver' y hy => ?_, fun _ _ h => h, hc, hs⟩
  grind [Gh.born]

theorem shape?_alloc {w : World} {o : Obj} {k : Nat} {x : TypeId × Nat} (h : w.shape? k = some x) : (w.alloc o).shape? k = some x := by
  have hk : k < w.heap.size := by
    apply Decidable.byContradiction; intro hn
    simp [World.shape?, Array.getElem?_eq_none (Nat.le_of_not_lt hn)] at h
  simpa [World.shape?, RowKit.Below.heap_alloc w o k hk] using h

theorem alloc_get {w : World} {o : Obj} : (w.alloc o).heap[w.heap.size]? = some o := by
  show (w.heap.push o)[w.heap.size]? = some o
  simp

/-- A new block of whatever kind. -/
theorem Inv.newBlk {g : Gh} {H : List ABlk} {w : World} (hi : Inv g H w) {nid sz : Nat} {y : ABlk} {ob : Obj} (hn : H[nid]? = some .unborn) (hv : y.live = some 0) (hg : Good (g.born nid 0 (w.heap.size, sz)) (w.alloc ob) nid y) :
    Inv (g.born nid 0 (w.heap.size, sz)) (H.set nid y) (w.alloc ob) ∧ Later g H w (g.born nid 0 (w.heap.size, sz)) (H.set nid y) (w.alloc ob) ∧ (g.born nid 0 (w.heap.size, sz)).rho nid 0 = some (w.heap.size, sz) := by
  have hf : ∀ ver, g.rho nid ver = none := fun ver => hi.fresh nid ver (.inl hn)
  have hlt : nid < H.length := (List.getElem?_eq_some_iff.1 hn).1
  have hstc : ∀ k o, g.st k o → (w.alloc ob).cell? ⟨k, o, none⟩ = w.cell? ⟨k, o, none⟩ := fun k o hs => cell?_of_heap (RowKit.Below.heap_alloc w _ k (hi.stold k o hs)) o
  have hext : Ext g w (g.born nid 0 (w.heap.size, sz)) (w.alloc ob) := Ext.born (hf 0) hstc fun k x hx => shape?_alloc hx
  have hro : ∀ b ver k z, (g.born nid 0 (w.heap.size, sz)).rho b ver = some (k, z) → (b = nid ∧ ver = 0 ∧ k = w.heap.size ∧ z = sz) ∨ (b ≠ nid ∧ g.rho b ver = some (k, z)) := by
    intro b ver k z h
    simp only [Gh.born] at h
    split at h
    · grind
    · grind
  have hrn : (g.born nid 0 (w.heap.size, sz)).rho nid 0 = some (w.heap.size, sz) := by simp [Gh.born]
  refine ⟨⟨?_, ?_, ?_, ?_, ?_, ?_, hi.globs.mono hext⟩, ⟨hext, by simp, ?_, ?_, by simp, rfl, ⟨rfl, Nat.le_refl _⟩, rfl, fun _ _ _ h => .inl h, fun b hb => ?_, fun b ver k z h => (hro b ver k z h).elim (fun e => .inr (by rw [e.2.2.1]; exact Nat.le_refl _)) fun e => .inl ⟨ver, z, e.2⟩⟩, hrn⟩
  · intro b x hb
    rcases getElem?_setB hb with ⟨rfl, he, _⟩ | ⟨hne, hq⟩
    · subst he; exact hg
    · exact Good_mono hext (hi.good b x hq) (fun v k z h1 h2 => RowKit.Below.heap_alloc w _ k (hi.lies hq h1 h2)) fun v _ h => by simp [Gh.born, hne, h]
  · intro b b' x x' v v' k z z' hb hb' h1 h1' hk hk'
    rcases getElem?_setB hb with ⟨rfl, he, _⟩ | ⟨hne, hq⟩ <;> rcases getElem?_setB hb' with ⟨hb2, he', _⟩ | ⟨hne', hq'⟩
    · exact hb2.symm
    · rcases hro _ _ _ _ hk' with ⟨h1, _⟩ | ⟨_, hk2⟩
      · exact absurd h1 hne'
      · have := hi.lies hq' h1' hk2
        grind
    · subst hb2
      rcases hro _ _ _ _ hk with ⟨h1, _⟩ | ⟨_, hk2⟩
      · exact absurd h1 hne
      · have := hi.lies hq h1 hk2
        grind
    · rcases hro _ _ _ _ hk with ⟨h1, _⟩ | ⟨_, hk2⟩
      · exact absurd h1 hne
      · rcases hro _ _ _ _ hk' with ⟨h1, _⟩ | ⟨_, hk2'⟩
        · exact absurd h1 hne'
        · exact hi.inj b b' x x' v v' k z z' hq hq' h1 h1' hk2 hk2'
  · intro b ver hb
    have hbn : b ≠ nid := by
      rintro rfl
      rcases hb with hb | hb
      · rw [List.getElem?_set_self hlt] at hb; simp at hb; subst hb; cases hv
      · simp at hb; omega
    grind [hi.fresh, Gh.born]
  · intro b x v ver' hb hl hlt'
    rcases getElem?_setB hb with ⟨rfl, he, _⟩ | ⟨hne, hq⟩
    · grind [Gh.born]
    · simp only [Gh.born]
      rw [if_neg (by simp [hne])]
      exact hi.next b x v ver' hq hl hlt'
  · intro b x v k z o hb hl hk hs
    have hs' : g.st k o := hs
    rcases hro _ _ _ _ hk with ⟨_, _, h1, _⟩ | ⟨hbn, hk2⟩
    · have := hi.stold _ _ hs'; omega
    · rcases getElem?_setB hb with ⟨rfl, he, _⟩ | ⟨hne, hq⟩
      · exact absurd rfl hbn
      · exact hi.free b x v k z o hq hl hk2 hs'
  · intro k o hs
    have := hi.stold k o hs
    simp; omega
  · intro k hk _
    exact RowKit.Below.heap_alloc w _ k hk
  · rintro k hk ⟨b, x, v, z, hb, hl, hz⟩
    rcases hro _ _ _ _ hz with ⟨_, _, h1, _⟩ | ⟨hbn, hz2⟩
    · omega
    · rcases getElem?_setB hb with ⟨rfl, he, _⟩ | ⟨hne, hq⟩
      · exact absurd rfl hbn
      · exact ⟨b, x, v, z, hq, hl, hz2⟩
  grind [Gh.born]

/-- A new row of cells. -/
theorem Inv.alloc {g : Gh} {H : List ABlk} {w : World} (hi : Inv g H w) {nid sz : Nat} {rows : List (List AVal)} {c : Array Value} {e : TypeId} (hn : H[nid]? = some .unborn) (hsz : 0 < sz)
    (hr : RowsAt g w c sz rows 0) (hl : rows.length * sz ≤ c.size) :
    Inv (g.born nid 0 (w.heap.size, sz)) (H.set nid (.row 0 sz rows)) (w.alloc (.cells c e)) ∧ Later g H w (g.born nid 0 (w.heap.size, sz)) (H.set nid (.row 0 sz rows)) (w.alloc (.cells c e)) ∧
    (g.born nid 0 (w.heap.size, sz)).rho nid 0 = some (w.heap.size, sz) := by
  refine hi.newBlk hn rfl (.inl ⟨w.heap.size, c, e, by simp [Gh.born], alloc_get, ?_, hl, hsz⟩)
  refine RowsAt_mono (Ext.born (hi.fresh nid 0 (.inl hn)) (fun k o hs => cell?_of_heap (RowKit.Below.heap_alloc w _ k (hi.stold k o hs)) o) fun k x hx => shape?_alloc hx) rows 0 hr

/-! ### A block given anew, in its place -/

theorem shape?_of_size {w w' : World} {k : Nat} {c c' : Array Value} {e : TypeId} {z z' : Nat × Nat} (h1 : w.heap[k]? = some (.cells c e z)) (h2 : w'.heap[k]? = some (.cells c' e z')) (hs : c'.size = c.size)
    (ho : ∀ j, j ≠ k → w'.heap[j]? = w.heap[j]?) : ∀ j x, w.shape? j = some x → w'.shape? j = some x := by
  intro j x hx
  by_cases hj : j = k
  · subst hj; simpa [World.shape?, h1, h2, hs] using hx
  · simpa [World.shape?, ho j hj] using hx

theorem Inv.inplace {g : Gh} {H : List ABlk} {w w' : World} (hi : Inv g H w) {b v k z : Nat} {x y : ABlk} (hb : H[b]? = some x) (hv : x.live = some v) (hk : g.rho b v = some (k, z)) (hy : y.live = some v)
    (ho : ∀ j, j ≠ k → w'.heap[j]? = w.heap[j]?) (hz : w'.heap.size = w.heap.size) (hshape : ∀ j x, w.shape? j = some x → w'.shape? j = some x)
    (hos : w'.os = w.os) (htp : w'.tape = w.tape ∧ w.drawn ≤ w'.drawn) (hout : w'.output = w.output) (hg : Ext g w g w' → Good g w' b y) :
    Inv g (H.set b y) w' ∧ Later g H w g (H.set b y) w' := by
  have hlt : b < H.length := (List.getElem?_eq_some_iff.1 hb).1
  have hfree : ∀ o, ¬ g.st k o := fun o => hi.free b x v k z o hb hv hk
  have hst : ∀ k' o, g.st k' o → w'.cell? ⟨k', o, none⟩ = w.cell? ⟨k', o, none⟩ := fun k' o h =>
    cell?_of_heap (ho k' (fun e => hfree o (e ▸ h))) o
  have hext : Ext g w g w' := ⟨fun _ _ _ h => h, fun _ _ h => h, hst, hshape⟩
  have f : ∀ (b1 v1 : Nat) (x1 : ABlk), (H.set b y)[b1]? = some x1 → x1.live = some v1 → ∃ x2, H[b1]? = some x2 ∧ x2.live = some v1 := by
    intro b1 v1 x1 h hl
    rcases getElem?_setB h with ⟨rfl, he, _⟩ | ⟨_, h⟩
    · grind
    · exact ⟨_, h, hl⟩
  refine ⟨⟨?_, ?_, ?_, ?_, ?_, ?_, hi.globs.mono hext⟩, ⟨hext, by omega, ?_, ?_, by simp, hos, htp, hout, fun _ _ _ h => .inl h, fun b1 hb1 => ?_, fun _ ver _ z h => .inl ⟨ver, z, h⟩⟩⟩
  · intro b' x' hb'
    rcases getElem?_setB hb' with ⟨rfl, he, _⟩ | ⟨hne, hq⟩
    · subst he; exact hg hext
    · exact Good_mono hext (hi.good b' x' hq) (fun v' k' z' h1 h2 => ho k' (fun e => hne (hi.inj b' b x' x v' v k z' z hq hb h1 hv (e ▸ h2) hk))) fun _ _ h => h
  · intro b1 b2 x1 x2 v1 v2 k' z1 z2 hb1 hb2 hl1 hl2 hk1 hk2
    obtain ⟨y1, q1, q1'⟩ := f _ _ _ hb1 hl1
    obtain ⟨y2, q2, q2'⟩ := f _ _ _ hb2 hl2
    exact hi.inj b1 b2 y1 y2 v1 v2 k' z1 z2 q1 q2 q1' q2' hk1 hk2
  · intro b' ver' h
    apply hi.fresh
    by_cases hbb : b' = b
    · subst hbb
      rcases h with h | h
      · rw [List.getElem?_set_self hlt] at h; simp at h; subst h; cases hy
      · simp at h; omega
    grind
  · intro b' x' v1 v2 h hl hlt'
    obtain ⟨y1, q1, q1'⟩ := f _ _ _ h hl
    exact hi.next _ _ _ _ q1 q1' hlt'
  · intro b' x' v1 k' z' o h hl hk' hs
    obtain ⟨y1, q1, q1'⟩ := f _ _ _ h hl
    exact hi.free b' y1 v1 k' z' o q1 q1' hk' hs
  · intro k' o h; rw [hz]; exact hi.stold k' o h
  · intro k' _ hn
    exact ho k' (fun e => hn (e ▸ ⟨b, x, v, z, hb, hv, hk⟩))
  · rintro k' _ ⟨b', x', v1, z1, h, hl, hz'⟩
    obtain ⟨y1, q1, q1'⟩ := f _ _ _ h hl
    exact ⟨b', y1, v1, z1, q1, q1', hz'⟩
  · have hbn : b1 ≠ b := by rintro rfl; rw [hb] at hb1; simp at hb1; subst hb1; cases hv
    grind

/-- The block of b holds other cells now. -/
theorem Inv.store {g : Gh} {H : List ABlk} {w w' : World} (hi : Inv g H w) {b ver sz k : Nat} {rows rows' : List (List AVal)} {c c' : Array Value} {e : TypeId} (hb : H[b]? = some (.row ver sz rows)) (hk : g.rho b ver = some (k, sz))
    (h1 : w.heap[k]? = some (.cells c e (0, 0))) (h2 : w'.heap[k]? = some (.cells c' e (0, 0))) (hs : c'.size = c.size) (ho : ∀ j, j ≠ k → w'.heap[j]? = w.heap[j]?) (hz : w'.heap.size = w.heap.size)
    (hos : w'.os = w.os) (htp : w'.tape = w.tape ∧ w.drawn ≤ w'.drawn) (hout : w'.output = w.output) (hr : RowsAt g w c' sz rows' 0) (hl : rows'.length * sz ≤ c'.size) :
    Inv g (H.set b (.row ver sz rows')) w' ∧ Later g H w g (H.set b (.row ver sz rows')) w' := by
  obtain ⟨_, _, _, _, _, _, _, r5, _⟩ := hi.row b ver sz rows hb hk
  exact hi.inplace hb rfl hk rfl ho hz (shape?_of_size h1 h2 hs ho) hos htp hout fun hext => .inl ⟨k, c', e, hk, h2, RowsAt_mono hext _ 0 hr, hl, r5⟩

/-- An append: the block's next version, in the same place or in a new one. -/
theorem Inv.grow {g : Gh} {H : List ABlk} {w w' : World} (hi : Inv g H w) {b ver sz k k' : Nat} {rows rows' : List (List AVal)} {c c' : Array Value} {e e2 : TypeId} (hb : H[b]? = some (.row ver sz rows)) (r5 : 0 < sz)
    (h2 : w'.heap[k']? = some (.cells c' e2 (0, 0))) (hnew : (k' = k ∧ c'.size = c.size ∧ e2 = e ∧ g.rho b ver = some (k, sz) ∧ w.heap[k]? = some (.cells c e (0, 0))) ∨ w.heap.size ≤ k') (ho : ∀ j, j < w.heap.size → j ≠ k' → w'.heap[j]? = w.heap[j]?) (hz : w.heap.size ≤ w'.heap.size)
    (hos : w'.os = w.os) (htp : w'.tape = w.tape ∧ w.drawn ≤ w'.drawn) (hout : w'.output = w.output) (hr : RowsAt g w c' sz rows' 0) (hl : rows'.length * sz ≤ c'.size) :
    Inv (g.born b (ver + 1) (k', sz)) (H.set b (.row (ver + 1) sz rows')) w' ∧ Later g H w (g.born b (ver + 1) (k', sz)) (H.set b (.row (ver + 1) sz rows')) w' := by
  have hlt : b < H.length := (List.getElem?_eq_some_iff.1 hb).1
  have hf : g.rho b (ver + 1) = none := hi.next b _ ver (ver + 1) hb rfl (by omega)
  have hst6 : ∀ o, ¬ g.st k' o := by
    intro o h
    rcases hnew with ⟨rfl, _, _, hk, _⟩ | hn
    · obtain ⟨k0, c0, e0, r1, r2, r3, r4, r5, r6⟩ := hi.row b ver sz rows hb hk
      grind
    · exact absurd (hi.stold k' o h) (by omega)
  have hst : ∀ j o, g.st j o → w'.cell? ⟨j, o, none⟩ = w.cell? ⟨j, o, none⟩ := fun j o h =>
    cell?_of_heap (ho j (hi.stold j o h) (fun e => hst6 o (e ▸ h))) o
  have hshape : ∀ j x, w.shape? j = some x → w'.shape? j = some x := by
    intro j x hx
    have hj : j < w.heap.size := by
      apply Decidable.byContradiction; intro hn
      simp [World.shape?, Array.getElem?_eq_none (Nat.le_of_not_lt hn)] at hx
    by_cases hjk : j = k'
    · subst hjk
      rcases hnew with ⟨rfl, hs, he2, _, h1⟩ | hn
      · subst he2; simpa [World.shape?, h1, h2, hs] using hx
      · omega
    · simpa [World.shape?, ho j hj hjk] using hx
  have hext : Ext g w (g.born b (ver + 1) (k', sz)) w' := Ext.born hf hst hshape
  have hro : ∀ b1 v1 k1 z1, (g.born b (ver + 1) (k', sz)).rho b1 v1 = some (k1, z1) → (b1 = b ∧ v1 = ver + 1 ∧ k1 = k' ∧ z1 = sz) ∨ (¬ (b1 = b ∧ v1 = ver + 1) ∧ g.rho b1 v1 = some (k1, z1)) := by
    intro b1 v1 k1 z1 h
    simp only [Gh.born] at h
    split at h
    · grind
    · rename_i hh; exact .inr ⟨hh, h⟩
  have hrn : (g.born b (ver + 1) (k', sz)).rho b (ver + 1) = some (k', sz) := by simp [Gh.born]
  have hother : ∀ b1 v1 x1 k1 z1, b1 ≠ b → H[b1]? = some x1 → x1.live = some v1 → g.rho b1 v1 = some (k1, z1) → k1 ≠ k' ∧ k1 < w.heap.size := by
    intro b1 v1 x1 k1 z1 hne hb1 hl1 hk1
    have hk1l := hi.lies hb1 hl1 hk1
    refine ⟨fun e => ?_, hk1l⟩
    rcases hnew with ⟨hkk, _, _, hk, _⟩ | hn
    · exact hne (hi.inj b1 b x1 _ v1 ver k z1 sz hb1 hb hl1 rfl (by rw [hk1, e, hkk]) hk)
    · omega
  refine ⟨⟨?_, ?_, ?_, ?_, ?_, ?_, hi.globs.mono hext⟩, ⟨hext, hz, ?_, ?_, by simp, hos, htp, hout, fun _ _ _ h => .inl h, fun b1 hb1 => ?_, fun b1 v1 k1 z1 h => (hro b1 v1 k1 z1 h).elim (fun e => by
    grind) fun e => .inl ⟨v1, z1, e.2⟩⟩⟩
  · intro b' x' hb'
    rcases getElem?_setB hb' with ⟨rfl, he, _⟩ | ⟨hne, hq⟩
    · subst he
      exact .inl ⟨k', c', e2, hrn, h2, RowsAt_mono hext _ 0 hr, hl, r5⟩
    · refine Good_mono hext (hi.good b' x' hq) (fun v1 k1 z1 hl1 hk1 => ?_) fun v _ h => by simp [Gh.born, hne, h]
      grind
  · intro b1 b2 x1 x2 v1 v2 kk z z' hb1 hb2 hl1 hl2 hk1 hk2
    rcases getElem?_setB hb1 with ⟨rfl, he1, _⟩ | ⟨hne1, hq1⟩ <;> rcases getElem?_setB hb2 with ⟨e2, he2, _⟩ | ⟨hne2, hq2⟩
    · exact e2.symm
    · grind [ABlk.live]
    · grind [ABlk.live]
    · rcases hro _ _ _ _ hk1 with ⟨h, _⟩ | ⟨_, hk1⟩
      · exact absurd h hne1
      · rcases hro _ _ _ _ hk2 with ⟨h, _⟩ | ⟨_, hk2⟩
        · exact absurd h hne2
        · exact hi.inj b1 b2 x1 x2 v1 v2 kk z z' hq1 hq2 hl1 hl2 hk1 hk2
  · grind [hi.fresh, Gh.born]
  · intro b' x' v1 v2 h hl hlt'
    rcases getElem?_setB h with ⟨rfl, he, _⟩ | ⟨hne, h⟩
    · subst he
      simp [ABlk.live] at hl; subst hl
      simp only [Gh.born]
      rw [if_neg (by omega)]
      exact hi.next _ _ _ _ hb rfl (by omega)
    · simp only [Gh.born]
      rw [if_neg (by simp [hne])]
      exact hi.next _ _ _ _ h hl hlt'
  · intro b' x' v1 k1 z1 o h hl hk1 hs
    rcases hro _ _ _ _ hk1 with ⟨_, _, h1, _⟩ | ⟨hnn, hk2⟩
    · subst h1; exact hst6 o hs
    · rcases getElem?_setB h with ⟨rfl, he, _⟩ | ⟨hne, hq⟩
      · grind [ABlk.live]
      · exact hi.free b' x' v1 k1 z1 o hq hl hk2 hs
  · intro j o h
    exact Nat.lt_of_lt_of_le (hi.stold j o h) hz
  · intro j hj hn
    refine ho j hj (fun e => ?_)
    rcases hnew with ⟨hkk, _, _, hk, _⟩ | hn'
    · exact hn (e.trans hkk ▸ ⟨b, _, ver, sz, hb, rfl, hk⟩)
    · omega
  · rintro j hj ⟨b', x', v1, z, h, hl, hz'⟩
    rcases hro _ _ _ _ hz' with ⟨h1, _, h3, _⟩ | ⟨hnn, hz2⟩
    · rcases hnew with ⟨hkk, _, _, hk, _⟩ | hn'
      · exact ⟨b, _, ver, sz, hb, rfl, by rw [hk, h3, hkk]⟩
      · omega
    · rcases getElem?_setB h with ⟨rfl, he, _⟩ | ⟨hne, hq⟩
      · grind [ABlk.live]
      · exact ⟨b', x', v1, z, hq, hl, hz2⟩
  grind [Gh.born]

/-- A row without elements, at its next version. -/
theorem Inv.blank {g : Gh} {H : List ABlk} {w : World} (hi : Inv g H w) {b ver sz : Nat} {rows : List (List AVal)} (hb : H[b]? = some (.row ver sz rows)) (hsz : 0 < sz) :
    Inv g (H.set b (.row (ver + 1) sz [])) w ∧ Later g H w g (H.set b (.row (ver + 1) sz [])) w := by
  have hf : g.rho b (ver + 1) = none := hi.next b _ ver (ver + 1) hb rfl (by omega)
  have hlt : b < H.length := (List.getElem?_eq_some_iff.1 hb).1
  refine ⟨⟨?_, ?_, ?_, ?_, ?_, hi.stold, hi.globs⟩, ⟨Ext.refl g w, Nat.le_refl _, fun _ _ _ => rfl, ?_, by simp, rfl, ⟨rfl, Nat.le_refl _⟩, rfl, fun _ _ _ h => .inl h, ?_, fun _ ver _ z h => .inl ⟨ver, z, h⟩⟩⟩
  · intro b' x h
    rcases getElem?_setB h with ⟨rfl, he, _⟩ | ⟨hne, h⟩
    · subst he; exact .inr ⟨rfl, hf, hsz⟩
    · exact hi.good b' x h
  · intro b1 b2 x1 x2 v1 v2 k z1 z2 h1 h2 l1 l2 k1 k2
    rcases getElem?_setB h1 with ⟨rfl, he, _⟩ | ⟨_, h1⟩
    · grind [ABlk.live]
    · rcases getElem?_setB h2 with ⟨rfl, he, _⟩ | ⟨_, h2⟩
      · grind [ABlk.live]
      · exact hi.inj b1 b2 x1 x2 v1 v2 k z1 z2 h1 h2 l1 l2 k1 k2
  · intro b' v h
    rcases h with h | h
    · rcases getElem?_setB h with ⟨rfl, he, _⟩ | ⟨_, h⟩
      · cases he
      · exact hi.fresh b' v (.inl h)
    · exact hi.fresh b' v (.inr (by simpa using h))
  · intro b' x v v' h hl hv
    rcases getElem?_setB h with ⟨rfl, he, _⟩ | ⟨_, h⟩
    · subst he; simp [ABlk.live] at hl; subst hl; exact hi.next _ _ ver _ hb rfl (by omega)
    · exact hi.next b' x v v' h hl hv
  · intro b' x v k z o h hl hk
    rcases getElem?_setB h with ⟨rfl, he, _⟩ | ⟨_, h⟩
    · grind [ABlk.live]
    · exact hi.free b' x v k z o h hl hk
  · rintro k _ ⟨b', x, v, z, h, hl, hz⟩
    rcases getElem?_setB h with ⟨rfl, he, _⟩ | ⟨_, h⟩
    · grind [ABlk.live]
    · exact ⟨b', x, v, z, h, hl, hz⟩
  grind

/-- A row without elements that need not be there yet. -/
theorem Inv.virt {g : Gh} {H : List ABlk} {w : World} (hi : Inv g H w) {sz : Nat} (hsz : 0 < sz) :
    Inv g (H ++ [.row 0 sz []]) w ∧ Later g H w g (H ++ [.row 0 sz []]) w := by
  have side : ∀ (b : Nat) (x : ABlk), (H ++ [ABlk.row 0 sz []])[b]? = some x → H[b]? = some x ∨ (b = H.length ∧ x = .row 0 sz []) := by
    intro b x h
    by_cases hb : b < H.length
    · grind
    · grind
  have hf : ∀ v, g.rho H.length v = none := fun v => hi.fresh _ v (.inr (Nat.le_refl _))
  refine ⟨⟨?_, ?_, ?_, ?_, ?_, hi.stold, hi.globs⟩, ⟨Ext.refl g w, Nat.le_refl _, fun _ _ _ => rfl, ?_, by simp, rfl, ⟨rfl, Nat.le_refl _⟩, rfl, fun _ _ _ h => .inl h, ?_, fun _ ver _ z h => .inl ⟨ver, z, h⟩⟩⟩
  · intro b x h
    rcases side b x h with h | ⟨rfl, rfl⟩
    · exact hi.good b x h
    · exact .inr ⟨rfl, hf 0, hsz⟩
  · intro b1 b2 x1 x2 v1 v2 k z1 z2 h1 h2 l1 l2 k1 k2
    rcases side _ _ h1 with h1 | ⟨rfl, rfl⟩
    · rcases side _ _ h2 with h2 | ⟨rfl, rfl⟩
      · exact hi.inj b1 b2 x1 x2 v1 v2 k z1 z2 h1 h2 l1 l2 k1 k2
      · rw [hf] at k2; cases k2
    · rw [hf] at k1; cases k1
  · intro b v h
    rcases h with h | h
    · rcases side _ _ h with h | ⟨_, h⟩
      · exact hi.fresh b v (.inl h)
      · cases h
    · exact hi.fresh b v (.inr (by simp at h; omega))
  · intro b x v v' h hl hv
    rcases side _ _ h with h | ⟨rfl, rfl⟩
    · exact hi.next b x v v' h hl hv
    · exact hf v'
  · intro b x v k z o h hl hk
    rcases side _ _ h with h | ⟨rfl, rfl⟩
    · exact hi.free b x v k z o h hl hk
    · rw [hf] at hk; cases hk
  · rintro k _ ⟨b, x, v, z, h, hl, hz⟩
    rcases side _ _ h with h | ⟨rfl, rfl⟩
    · exact ⟨b, x, v, z, h, hl, hz⟩
    · rw [hf] at hz; cases hz
  grind

end
end Go.AM
