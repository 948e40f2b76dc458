/- The values of an abstract machine that carries Go code out over data: a slice that nobody writes is a list; memory of the call's own is numbered from 0. No program. -/
import Derived.Calls
import Derived.Laws.AppendOwn
import Derived.Below
namespace Go.AM

/-- A value. 'lst', 'cptr': memory that nobody writes any more, by its content. 'ptr', 'sl', 'mp': memory of our own: block, version. 'sa': a slice of n elements of s cells each, within a row. 'yld': the yield of the loop in a block. 'glob': a place in a package-level variable. 'emp': a slice without elements and without room. 'nz': a slice without elements: is it nil? 'junk': whatever. 'tls': as 'lst', and there is no more room than its elements take. -/
inductive AVal where
  | sc (v : Value)
  | agg (cs : List AVal)
  | tup (cs : List AVal)
  | ptr (b ver i o : Nat)
  | cptr (cs : List AVal) (o : Nat)
  | sl (b ver sz o n : Nat)
  | lst (rows : List (List AVal))
  | fn (f : Fn) (first cap : List AVal)
  | ifc (t : TypeId) (v : AVal)
  | mp (b : Nat)
  | yld (b : Nat)
  | sa (b ver i o s n : Nat)
  | glob (i o : Nat)
  | emp
  | nz (isNil : Bool)
  | junk
  | tls (rows : List (List AVal))

instance : Inhabited AVal := ⟨.junk⟩

namespace AVal

def cells : AVal → List AVal
  | .agg cs => cs
  | v => [v]

/-- A value of one cell, by its make. -/
def storable : AVal → Bool
  | .sc v => v.oneCell'
  | .agg _ => false
  | .tup _ => false
  | .junk => false
  | _ => true

/-- The cells of a value that may be stored. -/
def cellsOk : AVal → Option (List AVal)
  | .agg cs => some cs
  | v => if v.storable then some [v] else none

/-- A constant of the text. -/
def ofValue : Value → AVal
  | .agg cs => if cs.toList.all (·.oneCell') then .agg (cs.toList.map .sc) else .junk
  | .tuple cs => .tup (cs.toList.map .sc)
  | v => .sc v

mutual
/-- No block of our own is named. -/
def pure : AVal → Bool
  | .sc _ => true
  | .agg cs => pureL cs
  | .tup cs => pureL cs
  | .ptr .. => false
  | .cptr .. => true
  | .sl .. => false
  | .lst _ => true
  | .fn _ a b => pureL a && pureL b
  | .ifc _ v => pure v
  | .mp _ => false
  | .yld _ => false
  | .sa .. => false
  | .glob _ _ => true
  | .emp => true
  | .nz _ => true
  | .junk => true
  | .tls _ => true
def pureL : List AVal → Bool
  | [] => true
  | a :: as => pure a && pureL as
end

mutual
/-- The blocks that are named lie below n. -/
def refsLt (n : Nat) : AVal → Bool
  | .sc _ => true
  | .agg cs => refsLtL n cs
  | .tup cs => refsLtL n cs
  | .ptr b .. => decide (b < n)
  | .cptr .. => true
  | .sl b .. => decide (b < n)
  | .lst _ => true
  | .fn _ a b => refsLtL n a && refsLtL n b
  | .ifc _ v => refsLt n v
  | .mp b => decide (b < n)
  | .yld b => decide (b < n)
  | .sa b .. => decide (b < n)
  | .glob _ _ => true
  | .emp => true
  | .nz _ => true
  | .junk => true
  | .tls _ => true
def refsLtL (n : Nat) : List AVal → Bool
  | [] => true
  | a :: as => refsLt n a && refsLtL n as
end

end AVal

/-- What the proof knows beside: which concrete block, with which size of an element, a block of ours at a version is; which cells stay as they are. -/
structure Gh where
  rho : Nat → Nat → Option (Nat × Nat)
  st : Nat → Nat → Prop

mutual
/-- The value 'v' of ours is the value 'x' of the machine's. -/
def R (g : Gh) (w : World) : AVal → Value → Prop
  | .sc v, x => x = v
  | .agg cs, x => ∃ vs : List Value, x = .agg vs.toArray ∧ (∀ y ∈ vs, y.oneCell' = true) ∧ RL g w cs vs
  | .tup cs, x => ∃ vs : List Value, x = .tuple vs.toArray ∧ RL g w cs vs
  | .ptr b ver i o, x => ∃ k sz, g.rho b ver = some (k, sz) ∧ x = .pointer (some ⟨k, i * sz + o, none⟩)
  | .cptr cs o, x => ∃ k off, x = .pointer (some ⟨k, off + o, none⟩) ∧ AVal.pureL cs = true ∧ RC g w cs k off
  | .sl b ver sz o n, x => (n = 0 ∧ x = .slice none 0 0) ∨ ∃ k cap e s, g.rho b ver = some (k, sz) ∧ x = .slice (some ⟨k, o * sz, none⟩) n cap ∧ w.shape? k = some (e, s) ∧ (o + cap) * sz = s ∧ n ≤ cap ∧ cap ≤ 9223372036854775807
  | .lst rows, x => ∃ a cap, x = .slice a rows.length cap ∧ rows.length ≤ cap ∧ (rows.length = 0 ∨ ∃ k off sz, a = some ⟨k, off, none⟩ ∧ RR g w rows k off sz)
  | .fn f a b, x => ∃ va vb : List Value, x = .func f va.toArray vb.toArray ∧ RL g w a va ∧ RL g w b vb
  | .ifc t v, x => ∃ y, x = .iface t y ∧ R g w v y
  | .mp b, x => ∃ k sz, g.rho b 0 = some (k, sz) ∧ x = .map (some k)
  | .yld b, x => ∃ k sz, g.rho b 0 = some (k, sz) ∧ x = .func (.yield k) #[] #[]
  | .sa b ver i o _ n, x => ∃ k sz cap, g.rho b ver = some (k, sz) ∧ x = .slice (some ⟨k, i * sz + o, none⟩) n cap ∧ n ≤ cap
  | .glob i o, x => x = .pointer (some ⟨i, o, none⟩)
  | .emp, x => ∃ a, x = .slice a 0 0
  | .nz b, x => ∃ a cap, x = .slice a 0 cap ∧ a.isNone = b
  | .junk, _ => True
  | .tls rows, x => ∃ k sz, x = .slice (some ⟨k, 0, none⟩) rows.length rows.length ∧ RR g w rows k 0 sz
def RL (g : Gh) (w : World) : List AVal → List Value → Prop
  | [], vs => vs = []
  | a :: as, vs => ∃ x xs, vs = x :: xs ∧ R g w a x ∧ RL g w as xs
/-- Cells that stay, from an address on. -/
def RC (g : Gh) (w : World) : List AVal → Nat → Nat → Prop
  | [], _, _ => True
  | a :: as, k, o => (g.st k o ∧ ∃ y, w.cell? ⟨k, o, none⟩ = some y ∧ y.oneCell' = true ∧ R g w a y) ∧ RC g w as k (o + 1)
/-- Rows of cells that stay, each of 'sz' cells. -/
def RR (g : Gh) (w : World) : List (List AVal) → Nat → Nat → Nat → Prop
  | [], _, _, _ => True
  | r :: rs, k, o, sz => (r.length = sz ∧ AVal.pureL r = true ∧ RC g w r k o) ∧ RR g w rs k (o + sz) sz
end

theorem tls_lst {g : Gh} {w : World} {rows : List (List AVal)} {x : Value} (h : R g w (.tls rows) x) : R g w (.lst rows) x := by
  simp only [R] at h ⊢
  obtain ⟨k, sz, e, hr⟩ := h
  exact ⟨some ⟨k, 0, none⟩, rows.length, e, Nat.le_refl _, .inr ⟨k, 0, sz, rfl, hr⟩⟩

/-- What came later keeps what we know. -/
structure Ext (g : Gh) (w : World) (g' : Gh) (w' : World) : Prop where
  rho : ∀ b ver x, g.rho b ver = some x → g'.rho b ver = some x
  st : ∀ k o, g.st k o → g'.st k o
  cell : ∀ k o, g.st k o → w'.cell? ⟨k, o, none⟩ = w.cell? ⟨k, o, none⟩
  shape : ∀ k x, w.shape? k = some x → w'.shape? k = some x

theorem Ext.refl (g : Gh) (w : World) : Ext g w g w := ⟨fun _ _ _ h => h, fun _ _ h => h, fun _ _ _ => rfl, fun _ _ h => h⟩

theorem Ext.trans {g g1 g2 : Gh} {w w1 w2 : World} (h : Ext g w g1 w1) (h' : Ext g1 w1 g2 w2) : Ext g w g2 w2 :=
  ⟨fun b v x e => h'.rho b v x (h.rho b v x e), fun k o e => h'.st k o (h.st k o e), fun k o e => (h'.cell k o (h.st k o e)).trans (h.cell k o e), fun k x e => h'.shape k x (h.shape k x e)⟩

set_option linter.unusedSectionVars false
section
variable {g g' : Gh} {w w' : World} (h : Ext g w g' w')
include h
mutual
theorem R_mono : ∀ (v : AVal) (x : Value), R g w v x → R g' w' v x
  | .sc _, x, hr => by simpa [R] using hr
  | .agg cs, x, hr => by
      simp only [R] at hr ⊢
      obtain ⟨vs, e, h1, hl⟩ := hr
      exact ⟨vs, e, h1, RL_mono cs vs hl⟩
  | .tup cs, x, hr => by
      simp only [R] at hr ⊢
      obtain ⟨vs, e, hl⟩ := hr
      exact ⟨vs, e, RL_mono cs vs hl⟩
  | .ptr b ver i o, x, hr => by
      simp only [R] at hr ⊢
      obtain ⟨k, sz, e, hx⟩ := hr
      exact ⟨k, sz, h.rho _ _ _ e, hx⟩
  | .cptr cs o, x, hr => by
      simp only [R] at hr ⊢
      obtain ⟨k, off, e, hp, hc⟩ := hr
      exact ⟨k, off, e, hp, RC_mono cs k off hc⟩
  | .sl b ver sz o n, x, hr => by
      simp only [R] at hr ⊢
      rcases hr with hr | ⟨k, cap, e, s, h1, h2, h3, h4⟩
      · exact .inl hr
      · exact .inr ⟨k, cap, e, s, h.rho _ _ _ h1, h2, h.shape _ _ h3, h4⟩
  | .lst rows, x, hr => by
      simp only [R] at hr ⊢
      obtain ⟨a, cap, e, hle, hr⟩ := hr
      refine ⟨a, cap, e, hle, ?_⟩
      rcases hr with h0 | ⟨k, off, sz, ha, hc⟩
      · exact .inl h0
      · exact .inr ⟨k, off, sz, ha, RR_mono rows k off sz hc⟩
  | .fn f a b, x, hr => by
      simp only [R] at hr ⊢
      obtain ⟨va, vb, e, h1, h2⟩ := hr
      exact ⟨va, vb, e, RL_mono a va h1, RL_mono b vb h2⟩
  | .ifc t v, x, hr => by
      simp only [R] at hr ⊢
      obtain ⟨y, e, h1⟩ := hr
      exact ⟨y, e, R_mono v y h1⟩
  | .mp b, x, hr => by
      simp only [R] at hr ⊢
      obtain ⟨k, sz, e, hx⟩ := hr
      exact ⟨k, sz, h.rho _ _ _ e, hx⟩
  | .yld b, x, hr => by
      simp only [R] at hr ⊢
      obtain ⟨k, sz, e, hx⟩ := hr
      exact ⟨k, sz, h.rho _ _ _ e, hx⟩
  | .sa b ver i o s n, x, hr => by
      simp only [R] at hr ⊢
      obtain ⟨k, sz, cap, e, hx⟩ := hr
      exact ⟨k, sz, cap, h.rho _ _ _ e, hx⟩
  | .glob i o, x, hr => by simpa [R] using hr
  | .emp, x, hr => by simpa [R] using hr
  | .nz _, x, hr => by simpa [R] using hr
  | .junk, x, _ => by simp [R]
  | .tls rows, x, hr => by
      simp only [R] at hr ⊢
      obtain ⟨k, sz, e, hr⟩ := hr
      exact ⟨k, sz, e, RR_mono rows k 0 sz hr⟩
theorem RL_mono : ∀ (v : List AVal) (x : List Value), RL g w v x → RL g' w' v x
  | [], x, hr => by simpa [RL] using hr
  | a :: as, x, hr => by
      simp only [RL] at hr ⊢
      obtain ⟨y, ys, e, h1, h2⟩ := hr
      exact ⟨y, ys, e, R_mono a y h1, RL_mono as ys h2⟩
theorem RC_mono : ∀ (v : List AVal) (k o : Nat), RC g w v k o → RC g' w' v k o
  | [], _, _, _ => by simp [RC]
  | a :: as, k, o, hr => by
      simp only [RC] at hr ⊢
      obtain ⟨⟨hs, y, hy, ho, hr1⟩, h2⟩ := hr
      exact ⟨⟨h.st _ _ hs, y, (h.cell _ _ hs).trans hy, ho, R_mono a y hr1⟩, RC_mono as k (o + 1) h2⟩
theorem RR_mono : ∀ (v : List (List AVal)) (k o sz : Nat), RR g w v k o sz → RR g' w' v k o sz
  | [], _, _, _, _ => by simp [RR]
  | r :: rs, k, o, sz, hr => by
      simp only [RR] at hr ⊢
      obtain ⟨⟨hs, hp, hr1⟩, h2⟩ := hr
      exact ⟨⟨hs, hp, RC_mono r k o hr1⟩, RR_mono rs k (o + sz) sz h2⟩
end
end

end Go.AM
