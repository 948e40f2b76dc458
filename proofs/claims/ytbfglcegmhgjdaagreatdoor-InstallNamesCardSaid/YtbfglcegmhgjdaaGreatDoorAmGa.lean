/- What code does, told by a guide: a guide walks with the code; where a value is a variable of the proof's, the guide says what is to be looked at; beside the walk it computes plain values. No program. -/
import Derived.Test.YtbfglcegmhgjdaaGreatDoorAmGt
namespace Go.AM

/-- So many slots that do not matter; lists put together. -/
def jl (n : Nat) : List AVal := List.replicate n .junk
def ap (a b : List AVal) : List AVal := a ++ b

/-! ### What code does -/

section
set_option linter.unusedSectionVars false
variable [Globs] {P : Program} {cfg : Cfg} {g : Gh} {H : List ABlk} {w : World} {fro : Option Nat}

/-- From 's' the code comes to something that is as 'Φ' says, seen from where the call, or the round, began. -/
def Does (P : Program) (fro : Option Nat) (g0 : Gh) (H0 : List ABlk) (w0 : World) [Globs] (c : Code) (s : St) (Φ : AOut → St → Prop) : Prop :=
  ∀ (Q : Exit → Act → World → Prop) (g : Gh) (a : Act) (w : World), Sim g s a w → Later g0 H0 w0 g s.H w → (∀ o s', Φ o s' → OutPost Q g0 H0 w0 s' o) → c.wpIn (Fr fro) 0 P Q a w

variable {g0 : Gh} {H0 : List ABlk} {w0 : World}

theorem Does.mono {c : Code} {s : St} {Φ Ψ : AOut → St → Prop} (h : Does P fro g0 H0 w0 c s Φ) (hp : ∀ o s', Φ o s' → Ψ o s') : Does P fro g0 H0 w0 c s Ψ :=
  fun Q g a w hs hl hk => h Q g a w hs hl fun o s' hf => hk o s' (hp o s' hf)

theorem Does.skip {s : St} {Φ : AOut → St → Prop} (h : Φ .normal s) : Does P fro g0 H0 w0 .skip s Φ :=
  fun _ g a w hs hl hp => wpIn_skip (hp _ _ h g a w hs hl)

theorem Does.exit {s : St} {Φ : AOut → St → Prop} {id : Nat} (h : Φ (.exit id) s) : Does P fro g0 H0 w0 (.exit id) s Φ :=
  fun _ g a w hs hl hp => wpIn_exit (hp _ _ h g a w hs hl)

theorem Does.ret {s : St} {Φ : AOut → St → Prop} (h : Φ .ret s) : Does P fro g0 H0 w0 .ret s Φ :=
  fun _ g a w hs hl hp => wpIn_ret (hp _ _ h g a w hs hl)

def outOf : OpRes → AOut × St
  | .ok s => (.normal, s)
  | .pan v s => (.pan v, s)

theorem Does.region (hm : P.follows .mixedOrders = true) {orcs : Nat → Orc} (ho : ∀ k, OrcOk P (orcs k)) {id : Nat} {ops : Array Oper} {draw : Bool} {s : St} {r : OpRes} {Φ : AOut → St → Prop} (hcalm : ∀ (k : Nat) (o : Oper), ops[k]? = some o → Calm fro o)
    (h : regionI P cfg orcs ops draw s = some r) (hr : Φ (outOf r).1 (outOf r).2) : Does P fro g0 H0 w0 (.region id ops draw) s Φ := by
  intro Q g a w hs hl hp
  cases r with
  | ok s' => exact region_sound hm ho hcalm h hs (RegPost.later (r := .ok s') (hp _ _ hr) hl)
  | pan v s' => exact region_sound hm ho hcalm h hs (RegPost.later (r := .pan v s') (hp _ _ hr) hl)

theorem Does.seq {a b : Code} {s : St} {Φ : AOut → St → Prop} (h : Does P fro g0 H0 w0 a s fun o s' => match o with | .normal => Does P fro g0 H0 w0 b s' Φ | o => Φ o s') : Does P fro g0 H0 w0 (.seq a b) s Φ := by
  intro Q g x w hs hl hp
  refine wpIn_seq (h _ g x w hs hl fun o s' hf => ?_)
  cases o with
  | normal => exact fun g' a' w' hs' hla => hf Q g' a' w' hs' hla hp
  | exit id => exact hp _ _ hf
  | ret => exact hp _ _ hf
  | pan v => exact hp _ _ hf

theorem Does.cond {c : Operand} {a b : Code} {s : St} {Φ : AOut → St → Prop} (z : Bool) (hc : evalA s.A c = .sc (.bool z)) (h : Does P fro g0 H0 w0 (if z then a else b) s Φ) : Does P fro g0 H0 w0 (.cond c a b) s Φ := by
  intro Q g x w hs hl hp
  have hev := hs.eval c
  rw [hc] at hev
  simp only [R] at hev
  cases z with
  | true => exact wpIn_cond_true hev (h Q g x w hs hl hp)
  | false => exact wpIn_cond_false hev (h Q g x w hs hl hp)

/-- Behind a block. -/
def behind (id : Nat) : AOut → AOut
  | .exit id' => if id' = id then .normal else .exit id'
  | o => o

theorem Does.block {id : Nat} {b : Code} {s : St} {Φ : AOut → St → Prop} (h : Does P fro g0 H0 w0 b s fun o s' => Φ (behind id o) s') : Does P fro g0 H0 w0 (.block id b) s Φ := by
  intro Q g x w hs hl hp
  refine wpIn_block (h _ g x w hs hl fun o s' hf => ?_)
  cases o with
  | normal => exact fun g' a' w' hs' hla => hp _ _ hf g' a' w' hs' hla
  | exit id' =>
    intro g' a' w' hs' hla
    by_cases he : id' = id
    · simp only [behind, he, if_true] at hf
      simp only [Exit.inBlock, he, if_true]
      exact hp _ _ hf g' a' w' hs' hla
    · simp only [behind, he, if_false] at hf
      simp only [Exit.inBlock, he, if_false]
      exact hp _ _ hf g' a' w' hs' hla
  | ret => exact fun g' a' w' hs' hla => hp _ _ hf g' a' w' hs' hla
  | pan v => exact fun g' a' w' x hv hs' hla hr => hp _ _ hf g' a' w' x hv hs' hla hr

theorem OutPost.weak {Q : Exit → Act → World → Prop} {g0 : Gh} {H0 : List ABlk} {w0 : World} (hi0 : Inv g0 H0 w0) {s' s'' : St} {o : AOut} (hw : Weak H0 s' s'') (h : OutPost Q g0 H0 w0 s'' o) : OutPost Q g0 H0 w0 s' o := by
  cases o with
  | normal => exact fun g' a' w' hs hl' => let ⟨g2, h1, h2⟩ := hw g0 w0 g' a' w' hi0 hl' hs; h g2 a' w' h1 h2
  | exit id => exact fun g' a' w' hs hl' => let ⟨g2, h1, h2⟩ := hw g0 w0 g' a' w' hi0 hl' hs; h g2 a' w' h1 h2
  | ret => exact fun g' a' w' hs hl' => let ⟨g2, h1, h2⟩ := hw g0 w0 g' a' w' hi0 hl' hs; h g2 a' w' h1 h2
  | pan v => exact fun g' a' w' x hv hs hl' hr => let ⟨g2, h1, h2⟩ := hw g0 w0 g' a' w' hi0 hl' hs; h g2 a' w' x hv h1 h2 (R_flat _ _ hv hr)

theorem Does.weak (hi0 : Inv g0 H0 w0) {c : Code} {s s1 : St} {Φ : AOut → St → Prop} (hw : Weak H0 s s1) (h : Does P fro g0 H0 w0 c s1 Φ) : Does P fro g0 H0 w0 c s Φ := by
  intro Q g a w hs hl hp
  obtain ⟨g2, h1, h2⟩ := hw g0 w0 g a w hi0 hl hs
  exact h Q g2 a w h1 h2 hp

/-- A loop: 'J n s': with at most 'n' rounds before us the state is 's'. -/
theorem Does.loop (hi0 : Inv g0 H0 w0) {b : Code} {s s0 : St} {n : Nat} {Φ : AOut → St → Prop} (J : Nat → St → Prop) (h0 : ∀ s, ¬ J 0 s) (hs0 : Weak H0 s s0) (hJ : J n s0)
    (hb : ∀ n s1, J (n + 1) s1 → Does P fro g0 H0 w0 b s1 fun o s2 => ∃ s3, Weak H0 s2 s3 ∧ match o with | .normal => J n s3 | o => Φ o s3) : Does P fro g0 H0 w0 (.loop b) s Φ := by
  intro Q gs a0 ws hs hl hp
  have key : ∀ (n : Nat) (s1 : St) (g : Gh) (a : Act) (w : World), J n s1 → Sim g s1 a w → Later g0 H0 w0 g s1.H w →
      ∀ (fr : Frame) (k : List Item) (cs : List Frame), fr.roundOf = (Fr fro).round → ∃ e a' w', Q e a' w' ∧ ArrivesIn (Machine.fenced P (Fr fro)) P (lone (fr.atR a (.code b :: .inLoop b :: k)) cs w) fr k cs e a' w' := by
    intro n
    induction n with
    | zero => grind
    | succ n ih =>
      intro s1 g a w hj hsim hla fr k cs hfr
      have hstep : b.wpIn (Fr fro) 0 P (Exit.then (fun a' w' => ∀ (fr : Frame) (k : List Item) (cs : List Frame), fr.roundOf = (Fr fro).round → ∃ e a2 w2, Q e a2 w2 ∧ ArrivesIn (Machine.fenced P (Fr fro)) P (lone (fr.atR a' (.code b :: .inLoop b :: k)) cs w') fr k cs e a2 w2) Q) a w := by
        refine hb n s1 hj _ g a w hsim hla fun o s2 ⟨s3, hw, hf⟩ => ?_
        cases o with
        | normal =>
          intro g' a' w' hs' hla'
          obtain ⟨g2, h1, h2⟩ := hw g0 w0 g' a' w' hi0 hla' hs'
          exact ih s3 g2 a' w' hf h1 h2
        | exit id => exact OutPost.weak hi0 (o := .exit id) hw (hp _ _ hf)
        | ret => exact OutPost.weak hi0 (o := .ret) hw (hp _ _ hf)
        | pan v => exact OutPost.weak hi0 (o := .pan v) hw (hp _ _ hf)
      obtain ⟨e, a₁, w₁, hq, harr⟩ := hstep fr (.inLoop b :: k) cs hfr trivial (room_Fr _ _)
      cases e with
      | normal =>
        obtain ⟨e₂, a₂, w₂, hq₂, harr₂⟩ := hq fr k cs hfr
        exact ⟨e₂, a₂, w₂, hq₂, .of_steps (StepsIn.trans harr (.one (fenced_calm (n := 0) trivial (room_Fr _ _) rfl) stepR_inLoop)) harr₂⟩
      | exit id => exact ⟨_, a₁, w₁, hq, .pass (x := .inLoop b) rfl (fun _ _ => .inl (by simp)) harr⟩
      | goto l => exact ⟨_, a₁, w₁, hq, .pass (x := .inLoop b) rfl (fun _ _ => .inl (by simp)) harr⟩
      | ret => exact ⟨_, a₁, w₁, hq, .pass (x := .inLoop b) rfl (fun _ _ => .inl (by simp)) harr⟩
      | panic ch => exact ⟨_, a₁, w₁, hq, .pass (x := .inLoop b) rfl (fun _ _ => .inl (by simp)) harr⟩
      | outgrown => exact ⟨_, a₁, w₁, hq, .pass (x := .inLoop b) rfl (fun _ _ => .inl (by simp)) harr⟩
  obtain ⟨g1, h1, h2⟩ := hs0 g0 w0 gs a0 ws hi0 hl hs
  intro fr k cs hfr _ hroom
  obtain ⟨e, a', w', hq, harr⟩ := key n s0 g1 a0 ws hJ h1 h2 fr k cs hfr
  exact ⟨e, a', w', hq, .of_steps (.one (fenced_calm trivial hroom rfl) stepR_loop) harr⟩

end

/-! ### Contracts -/

/-- Kinds of outcomes: a type, or one of two kinds. -/
inductive Sh : Type 1 where
  | one (τ : Type)
  | two (a b : Sh)

def Sh.El : Sh → Type
  | .one τ => τ
  | .two a b => a.El ⊕ b.El

def Sh.all : (s : Sh) → (s.El → Prop) → Prop
  | .one _, p => ∀ x, p x
  | .two a b, p => a.all (fun x => p (.inl x)) ∧ b.all (fun x => p (.inr x))

theorem Sh.all_iff : ∀ (s : Sh) (p : s.El → Prop), s.all p ↔ ∀ x, p x
  | .one _, p => Iff.rfl
  | .two a b, p => by
    simp only [Sh.all, Sh.all_iff a, Sh.all_iff b]
    exact ⟨fun h x => match x with | .inl y => h.1 y | .inr y => h.2 y, fun h => ⟨fun y => h (.inl y), fun y => h (.inr y)⟩⟩

namespace AVal
mutual
/-- Block 0 is named block b, at version v. -/
def at0 (b v : Nat) : AVal → AVal
  | .sc x => .sc x
  | .agg cs => .agg (at0L b v cs)
  | .tup cs => .tup (at0L b v cs)
  | .ptr _ _ i o => .ptr b v i o
  | .cptr cs o => .cptr cs o
  | .sl _ _ sz o n => .sl b v sz o n
  | .lst rows => .lst rows
  | .tls rows => .tls rows
  | .fn f c d => .fn f (at0L b v c) (at0L b v d)
  | .ifc t a => .ifc t (at0 b v a)
  | .mp x => .mp x
  | .yld x => .yld x
  | .sa _ _ i o s n => .sa b v i o s n
  | .glob i o => .glob i o
  | .emp => .emp
  | .nz x => .nz x
  | .junk => .junk
def at0L (b v : Nat) : List AVal → List AVal
  | [] => []
  | a :: as => at0 b v a :: at0L b v as
end
mutual
/-- Block 0, version 0 is named alone. -/
def only0 : AVal → Bool
  | .sc _ => true
  | .agg cs => only0L cs
  | .tup cs => only0L cs
  | .ptr b v .. => b == 0 && v == 0
  | .cptr .. => true
  | .sl b v .. => b == 0 && v == 0
  | .lst _ => true
  | .tls _ => true
  | .fn _ c d => only0L c && only0L d
  | .ifc _ a => only0 a
  | .mp _ => false
  | .yld _ => false
  | .sa b v .. => b == 0 && v == 0
  | .glob _ _ => true
  | .emp => true
  | .nz _ => true
  | .junk => true
def only0L : List AVal → Bool
  | [] => true
  | a :: as => only0 a && only0L as
end
mutual
/-- What names other blocks than b is dropped. -/
def but (b : Nat) : AVal → AVal
  | .sc x => .sc x
  | .agg cs => .agg (butL b cs)
  | .tup cs => .tup (butL b cs)
  | .ptr c v i o => match Nat.beq c b with
    | true => .ptr c v i o
    | false => .junk
  | .cptr cs o => .cptr cs o
  | .sl c v sz o n => match Nat.beq c b with
    | true => .sl c v sz o n
    | false => .junk
  | .lst rows => .lst rows
  | .tls rows => .tls rows
  | .fn f c d => .fn f (butL b c) (butL b d)
  | .ifc t a => .ifc t (but b a)
  | .mp _ => .junk
  | .yld _ => .junk
  | .sa c v i o s n => match Nat.beq c b with
    | true => .sa c v i o s n
    | false => .junk
  | .glob i o => .glob i o
  | .emp => .emp
  | .nz x => .nz x
  | .junk => .junk
def butL (b : Nat) : List AVal → List AVal
  | [] => []
  | a :: as => but b a :: butL b as
end
end AVal

/-- A row of plain cells, at version 0. -/
def ABlk.row0 : ABlk → Bool
  | .row ver _ rows => ver == 0 && rows.all AVal.pureL
  | _ => false

def ABlk.setVer (v : Nat) : ABlk → ABlk
  | .row _ sz rows => .row v sz rows
  | x => x

/-- What comes back names no block. -/
def ARes.pureR : ARes → Bool
  | .ret v => v.pure
  | .pan v => v.flat

/-- A slice of block 0, at version 0, told for block b. -/
def AVal.at1 (b v : Nat) : AVal → AVal
  | .sl _ _ sz o n => .sl b v sz o n
  | u => u
def ARes.at1 (b v : Nat) : ARes → ARes
  | .ret u => .ret (u.at1 b v)
  | .pan u => .pan u
/-- What comes back names no block, or is a slice of block 0. -/
def ARes.okR : ARes → Bool
  | .ret (.sl b v _ _ _) => b == 0 && v == 0
  | .ret u => u.pure
  | .pan u => u.flat
theorem ARes.okR_of {r : ARes} (h : r.pureR = true) : r.okR = true := by
  cases r with
  | ret u => cases u <;> first | exact h | cases h
  | pan u => exact h

/-- A call by content ends so. -/
def FnVal (P : Program) [Globs] (f : FuncId) (args : List AVal) (r : ARes) : Prop :=
  (∃ fn c, P.funcs[f]? = some fn ∧ fn.body = some c ∧ fn.name ≠ "runtime.NumGoroutine") ∧
  ∀ g w (vs : Array Value), Inv g [] w → RL g w args vs.toList → Calls P f vs w (Comes1 g [] w r [])

/-- A call with memory ends so: the blocks 'H' become 'H1'. -/
def FnRef (P : Program) [Globs] (f : FuncId) (args : List AVal) (H : List ABlk) (r : ARes) (H1 : List ABlk) : Prop :=
  (∃ fn c, P.funcs[f]? = some fn ∧ fn.body = some c ∧ fn.name ≠ "runtime.NumGoroutine") ∧
  ∀ g w (vs : Array Value), Inv g H w → RL g w args vs.toList → Calls P f vs w (Comes1 g H w r H1)

/-- A contract of a function that is called with memory. -/
structure CtrR (P : Program) [Globs] : Type 1 where
  f : FuncId
  X : Type
  args : X → List AVal
  heap : X → List ABlk
  sh : Sh
  out : sh.El → ARes
  outH : X → sh.El → List ABlk
  S : Nat → X → Option sh.El
  ok : ∀ n x r, S n x = some r → FnRef P f (args x) (heap x) (out r) (outH x r)

/-- A contract: called with the arguments 'args x' the function ends with 'out r', where 'S' computes 'r' out of 'x'. -/
structure Ctr (P : Program) [Globs] : Type 1 where
  f : FuncId
  X : Type
  args : X → List AVal
  sh : Sh
  out : sh.El → ARes
  S : Nat → X → Option sh.El
  ok : ∀ n x r, S n x = some r → FnVal P f (args x) (out r)

/-- A contract of a function that is handed one row of plain cells: told for block 0. -/
structure Ctr1 (P : Program) [Globs] : Type 1 where
  f : FuncId
  X : Type
  args : X → List AVal
  blk : X → ABlk
  sh : Sh
  out : sh.El → ARes
  outB : X → sh.El → ABlk
  S : Nat → X → Option sh.El
  a0 : ∀ x, AVal.only0L (args x) = true
  b0 : ∀ x, (blk x).row0 = true
  b1 : ∀ x r, (outB x r).row0 = true ∨ outB x r = .dead
  r0 : ∀ r, (out r).okR = true
  ok : ∀ n x r, S n x = some r → FnRef P f (args x) [blk x] (out r) [outB x r]

/-! ### Operations over variables -/

/-- What an operation does where what it looks at is a variable: 'run' computes, 'eff' is the effect. -/
structure OpT (X : Type) where
  run : Option X
  eff : X → Eff
  ids : List Nat
  chk : Globs → Program → Cfg → Nat → Op → (Operand → AVal) → List ABlk → Prop
  claim : Prop
  holds : claim
  sound : ∀ (gl : Globs) (P : Program) (cfg : Cfg) (nid : Nat) (op : Op) (rho : Operand → AVal) (H : List ABlk), chk gl P cfg nid op rho H → ∀ x, run = some x →
    (opPre P cfg nid rho op).run H = some (.eff (eff x)) ∧ (opPre P cfg nid rho op).reads H = ids

/-! ### Guides -/

/-- Blocks as they are known. -/
def knownC : List (Nat × ABlk) → List ABlk → Prop
  | [], _ => True
  | p :: ps, H => H[p.1]? = some p.2 ∧ knownC ps H
def knownClaims : List (Nat × ABlk) → Prop
  | [] => True
  | p :: ps => some p.2 = some p.2 ∧ knownClaims ps
theorem knownClaims_hold : ∀ l, knownClaims l
  | [] => trivial
  | _ :: ps => ⟨rfl, knownClaims_hold ps⟩

/-- Arguments that show blocks of our own, and their content. -/
structure SN where
  bs : List (Nat × ABlk)
  ain : List AVal
  aout : List AVal
  rs : List Nat
  pf : ∀ H, knownC bs H → (mapRd (snap snapFuel) ain).run H = some aout ∧ (mapRd (snap snapFuel) ain).reads H = rs

/-- A block of pure cells. -/
structure PU where
  b : Nat
  blk : ABlk
  pf : pureBlk blk = true

/-- A row of pure cells, or a map of pure entries. -/
def prBlk : ABlk → Bool
  | .row _ _ rows => rows.all AVal.pureL
  | .map _ es => es.all fun p => p.1.pure && p.2.1.pure
  | _ => false

theorem prBlk_inv {x : ABlk} (h : prBlk x = true) : (∃ v sz rows, x = .row v sz rows ∧ rows.all AVal.pureL = true) ∨ ∃ c es, x = .map c es ∧ (es.all fun p => p.1.pure && p.2.1.pure) = true := by
  unfold prBlk at h
  grind

/-- A block that names no other one. -/
structure PR where
  b : Nat
  blk : ABlk
  pf : prBlk blk = true

def PR.ofRow (b ver sz : Nat) (rows : List (List AVal)) (pf : rows.all AVal.pureL = true) : PR := ⟨b, .row ver sz rows, pf⟩

/-- A slice of our own, to be kept by its content. -/
structure FZ where
  p : Pl
  b : Nat
  ver : Nat
  sz : Nat
  n : Nat
  rows : List (List AVal)
  pf : rows.all AVal.pureL = true

/-- A pointer to a variable of our own, to be kept by its content. -/
structure FP where
  p : Pl
  b : Nat
  ver : Nat
  sz : Nat
  cs : List AVal
  pf : AVal.pureL cs = true

/-- A map that an iterator goes through: blocks of both, how many entries, the entries. -/
structure PK where
  b : Nat
  mb : Nat
  n : Nat
  es : List (AVal × AVal × Nat)
  pf : es.length = n ∧ ∀ (i : Nat) p, es[i]? = some p → p.2.2 = i

/-- An append to a whole row of ours, of which another slice may read on. -/
structure GK where
  {X : Type}
  l : List X
  m : List X
  enc : X → List AVal
  n : Nat
  bytes : Nat
  b : Nat
  ver : Nat
  len : Nat
def GK.ok (z : GK) : Bool := decide (z.len = z.l.length) && roomy (z.l.length + z.m.length) z.bytes
def growT (P : Program) (ST XT : TypeId) : Option (Nat × Nat) :=
  match P.underlying ST, P.underlying XT with
  | some (.slice e), some (.slice _) => match P.info? e with
    | some i => if decide (0 < i.size) && zeroFits i then some (i.size, i.bytes) else none
    | none => none
  | _, _ => none

/-- A list whose elements hold nil slices, told with lists. -/
structure RW where
  p : Pl
  rows : List (List AVal)
  rows' : List (List AVal)
  pf : rows.map wkL = rows'

/-- A step that sets slots and blocks in order. -/
inductive TS where
  /-- The slots that are not named are forgotten. -/
  | keep (l : List Nat)
  | wk (p : Pl)
  | own (p : Pl) (sz : Nat)
  | frz (z : FZ)
  | frp (z : FP)
  | rew (z : RW)
  /-- New blocks are dropped, but for some. -/
  | cut (bl bump : List Nat) (pu : List PU)

/-- A guide. One tick for each operation and each condition. -/
inductive G (P : Program) [Globs] : Type → Type 1 where
  /-- For the tool: here a word is wanted. -/
  | stop {ρ : Type} : G P ρ
  /-- The end. -/
  | done {ρ : Type} (ts : List TS) (r : ρ) : G P ρ
  /-- Nothing is said of what comes. -/
  | fail {ρ : Type} : G P ρ
  /-- The next ticks need no word. -/
  | skip {ρ : Type} (n : Nat) (g : G P ρ) : G P ρ
  /-- The bool in a slot may be either. -/
  | br {ρ : Type} (d : Tmp) (c : Bool) (t f : G P ρ) : G P ρ
  /-- The number in a slot is c, or not. -/
  | eqi {ρ : Type} (d : Tmp) (k : IntKind) (x c : Int) (t f : G P ρ) : G P ρ
  /-- Two ways on, by a bool that stands in no slot. -/
  | sp {ρ : Type} (c : Bool) (t f : G P ρ) : G P ρ
  | op {ρ X : Type} (t : OpT X) (k : X → G P ρ) : G P ρ
  | call {ρ : Type} (c : Ctr P) (x : c.X) (k : c.sh.El → G P ρ) : G P ρ
  /-- A call by content, of memory of our own that is known in part. -/
  | callS {ρ : Type} (z : SN) (c : Ctr P) (x : c.X) (k : c.sh.El → G P ρ) : G P ρ
  | callR {ρ : Type} (c : CtrR P) (x : c.X) (k : c.sh.El → G P ρ) : G P ρ
  | call1 {ρ : Type} (c : Ctr1 P) (b v : Nat) (ex : List PR) (x : c.X) (k : c.sh.El → G P ρ) : G P ρ
  /-- Between the operations of a region whose order is fixed: slots and blocks set in order. -/
  | tidy {ρ : Type} (l : List TS) (g : G P ρ) : G P ρ
  | loop {ρ σ : Type} (sh : Sh) (hd : List TS) (E : σ → St) (X : sh.El → AOut × St) (a0 : σ) (body : σ → G P (σ ⊕ sh.El)) (k : sh.El → G P ρ) : G P ρ
  /-- A loop whose rounds may begin in states of several shapes. -/
  | loopS {ρ : Type} (hs sh : Sh) (hd : List TS) (E : hs.El → St) (X : sh.El → AOut × St) (a0 : hs.El) (body : hs.El → G P (hs.El ⊕ sh.El)) (k : sh.El → G P ρ) : G P ρ
  | unroll {ρ : Type} (n : Nat) (g : G P ρ) : G P ρ
  /-- A loop's body that is checked by a theorem of its own. -/
  | shutG {ρ : Type} (Q : Prop) (h : Q) (g : G P ρ) : G P ρ
  /-- Ways that part and come together again, at a condition or a block. -/
  | join {ρ : Type} (sh : Sh) (Y : sh.El → AOut × St) (g : G P sh.El) (k : sh.El → G P ρ) : G P ρ
  /-- A step of a loop over a map: whichever entry comes of those that have not come, or none if all have. -/
  | pick {ρ : Type} (z : PK) (seen : List Nat) (k : Option Nat → G P ρ) : G P ρ
  /-- An append that may be in its place or elsewhere. -/
  | grow {ρ : Type} (z : GK) (k : Bool → G P ρ) : G P ρ
  /-- A call, a round, or a loop over a function, walked through in its place. -/
  | inl {ρ : Type} (pr : List PR) (g : G P ρ) : G P ρ

/-- What is to be so where slots and blocks are set in order. -/
def tsOk : List TS → Bool
  | [] => true
  | .frz z :: ts => decide (z.n = z.rows.length) && tsOk ts
  | _ :: ts => tsOk ts

def iterO {σ τ : Type} (f : σ → Option (σ ⊕ τ)) : Nat → σ → Option τ
  | 0, _ => none
  | n + 1, a => match f a with
    | some (.inl a') => iterO f n a'
    | some (.inr t) => some t
    | none => none

section
variable {P : Program} [Globs]

def G.run (n : Nat) : {ρ : Type} → G P ρ → Option ρ
  | _, .stop => none
  | _, .done ts r => if tsOk ts then some r else none
  | _, .fail => none
  | _, .skip _ g => g.run n
  | _, .br _ c t f => if c then t.run n else f.run n
  | _, .eqi _ _ x c t f => if x = c then t.run n else f.run n
  | _, .sp c t f => if c then t.run n else f.run n
  | _, .op t k => t.run.bind fun x => (k x).run n
  | _, .call c x k => (c.S n x).bind fun r => (k r).run n
  | _, .callS _ c x k => (c.S n x).bind fun r => (k r).run n
  | _, .callR c x k => (c.S n x).bind fun r => (k r).run n
  | _, .call1 c _ _ _ x k => (c.S n x).bind fun r => (k r).run n
  | _, .tidy l g => if tsOk l then g.run n else none
  | _, .loop _ hd _ _ a0 body k => if tsOk hd then (iterO (fun a => (body a).run n) n a0).bind fun t => (k t).run n else none
  | _, .loopS _ _ hd _ _ a0 body k => if tsOk hd then (iterO (fun a => (body a).run n) n a0).bind fun t => (k t).run n else none
  | _, .unroll _ g => g.run n
  | _, .shutG _ _ g => g.run n
  | _, .join _ _ g k => (g.run n).bind fun t => (k t).run n
  | _, .pick _ _ _ => none
  | _, .grow _ _ => none
  | _, .inl _ g => g.run n

/-- What is to be seen at the ends of a loop's rounds. -/
def leafL {σ : Type} {sh : Sh} (E : σ → St) (X : sh.El → AOut × St) : σ ⊕ sh.El → Prop
  | .inl a => (AOut.normal, E a) = (AOut.normal, E a)
  | .inr t => X t = X t

/-- What is to be seen where ways come together. -/
def leafJ {sh : Sh} (Y : sh.El → AOut × St) (t : sh.El) : Prop := Y t = Y t

def puClaims : List PU → Prop
  | [] => True
  | p :: ps => some p.blk = some p.blk ∧ puClaims ps

def prClaims : List PR → Prop
  | [] => True
  | p :: ps => some p.blk = some p.blk ∧ prClaims ps

/-- What is to be seen where slots and blocks are set in order. -/
def tsClaims : List TS → Prop → Prop
  | [], q => q
  | .keep _ :: ts, q => tsClaims ts q
  | .wk _ :: ts, q => tsClaims ts q
  | .own _ _ :: ts, q => tsClaims ts q
  | .frz z :: ts, q => some (AVal.sl z.b z.ver z.sz 0 z.n) = some (AVal.sl z.b z.ver z.sz 0 z.n) ∧ some (ABlk.row z.ver z.sz z.rows) = some (ABlk.row z.ver z.sz z.rows) ∧ tsClaims ts q
  | .frp z :: ts, q => some (AVal.ptr z.b z.ver 0 0) = some (AVal.ptr z.b z.ver 0 0) ∧ some (ABlk.row z.ver z.sz [z.cs]) = some (ABlk.row z.ver z.sz [z.cs]) ∧ tsClaims ts q
  | .cut _ _ pu :: ts, q => puClaims pu ∧ tsClaims ts q
  | .rew z :: ts, q => some (AVal.lst z.rows) = some (AVal.lst z.rows) ∧ tsClaims ts q

omit [Globs] in
theorem puClaims_hold : ∀ (l : List PU), puClaims l
  | [] => trivial
  | _ :: ps => ⟨rfl, puClaims_hold ps⟩

omit [Globs] in
theorem prClaims_hold : ∀ (l : List PR), prClaims l
  | [] => trivial
  | _ :: ps => ⟨rfl, prClaims_hold ps⟩

omit [Globs] in
theorem tsClaims_hold {q : Prop} (h : q) : ∀ (l : List TS), tsClaims l q
  | [] => h
  | .keep _ :: ts => tsClaims_hold h ts
  | .wk _ :: ts => tsClaims_hold h ts
  | .own _ _ :: ts => tsClaims_hold h ts
  | .frz _ :: ts => ⟨rfl, rfl, tsClaims_hold h ts⟩
  | .frp _ :: ts => ⟨rfl, rfl, tsClaims_hold h ts⟩
  | .cut _ _ pu :: ts => ⟨puClaims_hold pu, tsClaims_hold h ts⟩
  | .rew _ :: ts => ⟨rfl, tsClaims_hold h ts⟩

/-- What is to be seen by computing alone. -/
def G.claims : {ρ : Type} → (ρ → Prop) → G P ρ → Prop
  | _, _, .stop => True
  | _, leaf, .done ts r => tsClaims ts (leaf r)
  | _, _, .fail => True
  | _, leaf, .skip _ g => g.claims leaf
  | _, leaf, .br _ c t f => some (AVal.sc (.bool c)) = some (AVal.sc (.bool c)) ∧ t.claims leaf ∧ f.claims leaf
  | _, leaf, .eqi _ k x _ t f => some (AVal.sc (.int k x)) = some (AVal.sc (.int k x)) ∧ t.claims leaf ∧ f.claims leaf
  | _, leaf, .sp _ t f => t.claims leaf ∧ f.claims leaf
  | _, leaf, .op t k => some true = some true ∧ t.claim ∧ ∀ x, (k x).claims leaf
  | _, leaf, .call c x k => some true = some true ∧ some (c.f, c.args x) = some (c.f, c.args x) ∧ c.sh.all fun r => (k r).claims leaf
  | _, leaf, .callS z c x k => some true = some true ∧ knownClaims z.bs ∧ some (c.f, z.ain) = some (c.f, z.ain) ∧ some (c.args x) = some (c.args x) ∧ c.sh.all fun r => (k r).claims leaf
  | _, leaf, .callR c x k => some true = some true ∧ some (c.f, c.args x, c.heap x) = some (c.f, c.args x, c.heap x) ∧ c.sh.all fun r => (k r).claims leaf
  | _, leaf, .call1 c b v ex x k => some true = some true ∧ prClaims ex ∧ some (c.f, AVal.at0L b v (c.args x), some ((c.blk x).setVer v)) = some (c.f, AVal.at0L b v (c.args x), some ((c.blk x).setVer v)) ∧ c.sh.all fun r => (k r).claims leaf
  | _, leaf, .tidy l g => tsClaims l (g.claims leaf)
  | _, leaf, .loop sh hd E X a0 body k => tsClaims hd (E a0 = E a0) ∧ (∀ a, (body a).claims (leafL E X)) ∧ sh.all fun t => (k t).claims leaf
  | _, leaf, .loopS hs sh hd E X a0 body k => tsClaims hd (E a0 = E a0) ∧ (hs.all fun a => (body a).claims (leafL E X)) ∧ sh.all fun t => (k t).claims leaf
  | _, leaf, .unroll _ g => g.claims leaf
  | _, _, .shutG Q _ _ => Q
  | _, leaf, .join sh Y g k => g.claims (leafJ Y) ∧ sh.all fun t => (k t).claims leaf
  | _, leaf, .pick z seen k => some true = some true ∧ AVal.ptr z.b 0 0 0 = AVal.ptr z.b 0 0 0 ∧ some (ABlk.iter (.mp z.mb) z.n seen z.n) = some (ABlk.iter (.mp z.mb) z.n seen z.n) ∧ some (ABlk.map z.n z.es) = some (ABlk.map z.n z.es) ∧ (k none).claims leaf ∧ ∀ i, (k (some i)).claims leaf
  | _, leaf, .grow z k => some true = some true ∧ some ABlk.unborn = some ABlk.unborn ∧ @Eq Bool true true ∧ some (z.n, z.bytes) = some (z.n, z.bytes) ∧ AVal.sl z.b z.ver z.n 0 z.len = AVal.sl z.b z.ver z.n 0 z.len ∧ some (ABlk.row z.ver z.n (z.l.map z.enc)) = some (ABlk.row z.ver z.n (z.l.map z.enc)) ∧ some (z.m.map z.enc) = some (z.m.map z.enc) ∧ (∀ _ : z.X, z.n = z.n) ∧ @Eq Bool false false ∧ (k true).claims leaf ∧ (k false).claims leaf
  | _, leaf, .inl pr g => some true = some true ∧ prClaims pr ∧ g.claims leaf

omit [Globs] in
theorem leafL_holds {σ : Type} {sh : Sh} (E : σ → St) (X : sh.El → AOut × St) : ∀ r, leafL E X r
  | .inl _ => rfl
  | .inr _ => rfl

theorem G.claims_hold : ∀ {ρ : Type} {leaf : ρ → Prop} (_ : ∀ r, leaf r) (g : G P ρ), g.claims leaf
  | _, _, _, .stop => trivial
  | _, _, h, .done ts r => tsClaims_hold (h r) ts
  | _, _, _, .fail => trivial
  | _, _, h, .skip _ g => G.claims_hold h g
  | _, _, h, .br _ _ t f => ⟨rfl, G.claims_hold h t, G.claims_hold h f⟩
  | _, _, h, .eqi _ _ _ _ t f => ⟨rfl, G.claims_hold h t, G.claims_hold h f⟩
  | _, _, h, .sp _ t f => ⟨G.claims_hold h t, G.claims_hold h f⟩
  | _, _, h, .op t k => ⟨rfl, t.holds, fun x => G.claims_hold h (k x)⟩
  | _, _, h, .call c _ k => ⟨rfl, rfl, (c.sh.all_iff _).2 fun r => G.claims_hold h (k r)⟩
  | _, _, h, .callS _ c _ k => ⟨rfl, knownClaims_hold _, rfl, rfl, (c.sh.all_iff _).2 fun r => G.claims_hold h (k r)⟩
  | _, _, h, .callR c _ k => ⟨rfl, rfl, (c.sh.all_iff _).2 fun r => G.claims_hold h (k r)⟩
  | _, _, h, .call1 c _ _ ex _ k => ⟨rfl, prClaims_hold ex, rfl, (c.sh.all_iff _).2 fun r => G.claims_hold h (k r)⟩
  | _, _, h, .tidy l g => tsClaims_hold (G.claims_hold h g) l
  | _, _, h, .loop sh hd E X _ body k => ⟨tsClaims_hold rfl hd, fun a => G.claims_hold (leafL_holds E X) (body a), (sh.all_iff _).2 fun t => G.claims_hold h (k t)⟩
  | _, _, h, .loopS hs sh hd E X _ body k => ⟨tsClaims_hold rfl hd, (hs.all_iff _).2 fun a => G.claims_hold (leafL_holds E X) (body a), (sh.all_iff _).2 fun t => G.claims_hold h (k t)⟩
  | _, _, h, .unroll _ g => G.claims_hold h g
  | _, _, _, .shutG _ q _ => q
  | _, _, h, .join sh _ g k => ⟨G.claims_hold (fun _ => rfl) g, (sh.all_iff _).2 fun t => G.claims_hold h (k t)⟩
  | _, _, h, .pick _ _ k => ⟨rfl, rfl, rfl, rfl, G.claims_hold h (k none), fun i => G.claims_hold h (k (some i))⟩
  | _, _, h, .grow _ k => ⟨rfl, rfl, rfl, rfl, rfl, rfl, rfl, fun _ => rfl, rfl, G.claims_hold h (k true), G.claims_hold h (k false)⟩
  | _, _, h, .inl pr g => ⟨rfl, prClaims_hold pr, G.claims_hold h g⟩

def G.less {ρ : Type} : Nat → G P ρ → G P ρ
  | 0, g => g
  | n + 1, g => .skip (n + 1) g

theorem G.less_run {ρ : Type} (n m : Nat) (g : G P ρ) : (G.less m g).run n = g.run n := by cases m <;> simp [G.less, G.run]

end

/-- How calls and rounds are walked through in their place. -/
structure Nest (P : Program) [Globs] where
  fn : {ρ : Type} → FuncId → List AVal → List ABlk → G P ρ → (G P ρ → ARes → List ABlk → Prop) → Prop
  rnd : {ρ : Type} → Nat → List AVal → List ABlk → G P ρ → (G P ρ → ARes → List ABlk → Prop) → Prop
  /-- A loop's body, checked elsewhere. -/
  lp : {σ : Type} → {sh : Sh} → Option Nat → List ABlk → Code → G P (σ ⊕ sh.El) → (σ → St) → St → (sh.El → AOut × St) → Prop

/-- What a walk goes by: the loop in whose round we are, if we are in one. -/
structure Env (P : Program) [Globs] where
  cfg : Cfg
  ro : Option Nat
  N : Nest P
  /-- May loops over maps be gone through? Then nothing is walked in its place where the order is open. -/
  nd : Bool

/-- Nothing is walked in its place. -/
def nest0 (P : Program) [Globs] : Nest P := ⟨fun _ _ _ _ _ => False, fun _ _ _ _ _ => False, fun _ _ _ _ _ _ _ => False⟩

/-- A call that is told by a contract with memory. -/
def conK (P : Program) [Globs] {ρ : Type} (f : FuncId) (args : List AVal) (H : List ABlk) (c : CtrR P) (x : c.X) (kk : c.sh.El → G P ρ) (k : G P ρ → ARes → List ABlk → Prop) : Prop :=
  some true = some true ∧ some (f, wkL args, H) = some (c.f, c.args x, c.heap x) ∧ c.sh.all fun r => k (kk r) (c.out r) (c.outH x r)

/-- Nothing is walked in its place, but calls may be told by contracts. -/
def nestK (P : Program) [Globs] : Nest P := ⟨fun f args H g k => match g with
  | .callR c x kk => conK P f args H c x kk k
  | _ => False, fun _ _ _ _ _ => False, fun _ _ _ _ _ _ _ => False⟩

def Env.at {P : Program} [Globs] (X : Env P) (draw : Bool) : Env P := match draw && X.nd with
  | true => { X with N := nestK P }
  | false => X

/-! ### For the tool: where a word is wanted. Nothing is so. -/

inductive AtOp (P : Program) [Globs] {ρ : Type} (X : Env P) (ops : Array Oper) (n0 : Nat) (o : Oper) (nid : Nat) (s : St) (k : G P ρ → OpRes → Foot → Prop) (draw : Bool) (H0 : List ABlk) : Prop
inductive AtCond (P : Program) [Globs] {ρ : Type} (X : Env P) (c : Operand) (a b : Code) (s : St) (k : G P ρ → AOut → St → Prop) (H0 : List ABlk) : Prop
inductive AtLoop (P : Program) [Globs] {ρ : Type} (X : Env P) (b : Code) (s : St) (k : G P ρ → AOut → St → Prop) (H0 : List ABlk) : Prop
inductive AtRange (P : Program) [Globs] {ρ : Type} (X : Env P) (f : Operand) (ps : Array Tmp) (assign body : Code) (s : St) (k : G P ρ → AOut → St → Prop) (H0 : List ABlk) : Prop
inductive AtEnd (P : Program) [Globs] {ρ : Type} (fn : Func) (o : AOut) (s : St) (out : ρ → ARes) : Prop
inductive AtEndN (P : Program) [Globs] {ρ : Type} (fn : Func) (o : AOut) (s : St) (H0 : List ABlk) (k : G P ρ → List PR → AOut → St → Prop) : Prop
inductive AtEndB (P : Program) [Globs] {ρ : Type} (b : Nat) (o : AOut) (s : St) (H0 : List ABlk) (k : G P ρ → St → Prop) : Prop
inductive AtJoin (P : Program) [Globs] {sh : Sh} (H0 : List ABlk) (o : AOut) (s : St) (Y : sh.El → AOut × St) : Prop
inductive AtRound (P : Program) [Globs] {σ : Type} {sh : Sh} (H0 : List ABlk) (o : AOut) (s : St) (E : σ → St) (X : sh.El → AOut × St) : Prop
inductive Stuck (P : Program) [Globs] {ρ : Type} (ops : Array Oper) (o : Oper) (s : St) (g : G P ρ) : Prop

/-! ### The walk -/

def keepA (keep : List Nat) : Nat → List AVal → List AVal
  | _, [] => []
  | i, a :: as => (match keep.contains i with | true => a | false => .junk) :: keepA keep (i + 1) as

def puC : List PU → List ABlk → Prop
  | [], _ => True
  | p :: ps, H => H[p.b]? = some p.blk ∧ puC ps H

def prC : List PR → List ABlk → Prop
  | [], _ => True
  | p :: ps, H => H[p.b]? = some p.blk ∧ prC ps H

def tidyC (H0 : List ABlk) : List TS → St → (St → Prop) → Prop
  | [], s, k => k s
  | .keep l :: ts, s, k => spineF (keepA l 0 s.A) fun A => tidyC H0 ts { s with A := A } k
  | .wk p :: ts, s, k => match wkS s p with
    | some s => tidyC H0 ts s k
    | none => False
  | .own p sz :: ts, s, k => match ownS s p sz with
    | some s => tidyC H0 ts s k
    | none => False
  | .frz z :: ts, s, k => getP s z.p = some (.sl z.b z.ver z.sz 0 z.n) ∧ s.H[z.b]? = some (.row z.ver z.sz z.rows) ∧ match frzS H0 s z.p z.rows with
    | some s => tidyC H0 ts s k
    | none => False
  | .frp z :: ts, s, k => getP s z.p = some (.ptr z.b z.ver 0 0) ∧ s.H[z.b]? = some (.row z.ver z.sz [z.cs]) ∧ match frpS H0 s z.p z.cs with
    | some s => tidyC H0 ts s k
    | none => False
  | .rew z :: ts, s, k => getP s z.p = some (.lst z.rows) ∧ tidyC H0 ts (setP s (.lst z.rows') z.p) k
  | .cut bl bump pu :: ts, s, k => puC pu s.H ∧ match cutS bl bump (pu.map (·.b)) H0 s with
    | some ⟨A, H, D⟩ => spineF A fun A => spineF H fun H => tidyC H0 ts ⟨A, H, D⟩ k
    | none => False

section
variable {P : Program} [Globs]

def tickC {ρ : Type} : G P ρ → St → (G P ρ → St → Prop) → Prop
  | .br d c t f, s, k => s.A[d]? = some (.sc (.bool c)) ∧ (setF s.A d (.sc (.bool true)) fun A => tickC t { s with A := A } k) ∧ (setF s.A d (.sc (.bool false)) fun A => tickC f { s with A := A } k)
  | .eqi d ik x c t f, s, k => s.A[d]? = some (.sc (.int ik x)) ∧ (setF s.A d (.sc (.int ik c)) fun A => tickC t { s with A := A } k) ∧ tickC f s k
  | .sp _ t f, s, k => tickC t s k ∧ tickC f s k
  | .fail, _, _ => True
  | g, s, k => k g s

def orc0 : Orc := ⟨fun _ _ _ => none, fun _ _ _ => none⟩
/-- The same answer to whatever is asked. -/
def orcC (r : Option (ARes × List ABlk)) : Orc := ⟨fun _ _ _ => r, fun _ _ _ => none⟩

/-- A call by reference: whom, with what, with which blocks. -/
def refOf (H : List ABlk) : Option Pre → Option (FuncId × List AVal × List ABlk)
  | some (.byRef f args ids) => some (f, wkL args, mask ids H)
  | _ => none

/-- These blocks alone. -/
def onlyB (ids : List Nat) : List Nat → Bool
  | [] => true
  | c :: cs => ids.contains c && onlyB ids cs

/-- The blocks as the machine comes to them. -/
def closP : List Nat → List Nat → List Nat
  | [], seen => seen
  | b :: todo, seen => match seen.contains b with
    | true => closP todo seen
    | false => closP todo (b :: seen)

def fstVisit : List Nat → List Nat → List Nat
  | [], _ => []
  | b :: todo, seen => match seen.contains b with
    | true => fstVisit todo seen
    | false => b :: fstVisit todo (b :: seen)

/-- A call by reference that names these blocks alone: whom, with what, the blocks in two orders. -/
def call1Of (P : Program) [Globs] (cfg : Cfg) (ids : List Nat) (rho : Operand → AVal) : Op → Option (FuncId × List AVal × List Nat × List Nat)
  | .call { callee := .value f, args := args, .. } => match rho f with
    | .fn (.func n) p q => match P.funcs[n]? with
      | some fn => match fn.body.isNone || cfg.val n || cfg.fz n with
        | false =>
          let l := AVal.refsL (p ++ args.toList.map rho ++ q)
          match onlyB ids l && Nat.ble l.length 900 with
          | true => some (n, p ++ args.toList.map rho ++ q, closP l [], fstVisit l [])
          | false => none
        | true => none
      | none => none
    | _ => none
  | _ => none

/-- The same with the block that is changed. -/
def ref1 (H : List ABlk) (b : Nat) : Option (FuncId × List AVal × List Nat × List Nat) → Option (FuncId × List AVal × Option ABlk)
  | some (f, args, ids, _) => match ids.contains b with
    | true => some (f, AVal.butL b (wkL args), H[b]?)
    | false => none
  | none => none

def idsOf : Option (FuncId × List AVal × List Nat × List Nat) → List Nat × List Nat
  | some (_, _, ids, rs) => (ids, rs)
  | none => ([], [])

/-- A call by content: whom, with what. -/
def callOf : Option Pre → Option (FuncId × List AVal)
  | some (.byVal f args _) => some (f, wkL args)
  | _ => none

/-- The blocks that can be come to; of some it is known that they are pure. Also in the order of coming. -/
def closX (pr : List Nat) (H : List ABlk) : Nat → List Nat → List Nat → Option (List Nat × List Nat)
  | _, [], seen => some (seen, [])
  | 0, _ :: _, _ => none
  | n + 1, b :: todo, seen => match seen.contains b with
    | true => closX pr H n todo seen
    | false => match pr.contains b with
      | true => (closX pr H n todo (b :: seen)).map fun p => (p.1, b :: p.2)
      | false => match H[b]? with
        | some (.row _ _ rows) => (closX pr H n ((if rows.all AVal.pureL then [] else AVal.refsL rows.flatten) ++ todo) (b :: seen)).map fun p => (p.1, b :: p.2)
        | some (.loop _ _ _ A _ _ _) => (closX pr H n (AVal.refsL A ++ todo) (b :: seen)).map fun p => (p.1, b :: p.2)
        | some (.iter m _ _ _) => (closX pr H n (AVal.refs m ++ todo) (b :: seen)).map fun p => (p.1, b :: p.2)
        | some (.map _ es) => (closX pr H n ((if es.all (fun p => p.2.1.pure) then [] else AVal.refsL (es.map fun p => p.2.1)) ++ todo) (b :: seen)).map fun p => (p.1, b :: p.2)
        | some _ => (closX pr H n todo (b :: seen)).map fun p => (p.1, b :: p.2)
        | none => none

/-- A call by reference, or a round: whom, with what, the blocks in two orders. -/
def preX (P : Program) [Globs] (cfg : Cfg) (pr : List Nat) (rho : Operand → AVal) (op : Op) (H : List ABlk) : Option ((FuncId ⊕ Nat) × List AVal × List Nat × List Nat) :=
  match op with
  | .call { callee := .value f, args := args, .. } => match rho f with
    | .fn (.func n) p q => match P.funcs[n]? with
      | some fn => match fn.body.isNone || cfg.val n || cfg.fz n with
        | false => match closX pr H 1000 (AVal.refsL (p ++ args.toList.map rho ++ q)) [] with
          | some (ids, rs) => some (.inl n, p ++ args.toList.map rho ++ q, ids, rs)
          | none => none
        | true => none
      | none => none
    | .yld b => match closX pr H 1000 (b :: AVal.refsL (args.toList.map rho)) [] with
      | some (ids, rs) => some (.inr b, args.toList.map rho, ids, rs)
      | none => none
    | _ => none
  | _ => none

/-- Behind a call or a round that was walked through. -/
def finC (ids : List Nat) (H : List ABlk) (a : ARes) (H1 : List ABlk) (k : Eff → List Nat → Bool → Prop) (kp : AVal → Prop) : Prop :=
  match a with
  | .ret v => match Nat.beq H1.length H.length with
    | true => k { val := v, upd := ids.map fun i => (i, H1.getD i .dead) } ids false
    | false => match mergeFin H ids (some (.ret v, H1)) with
      | some (.ok e) => effF e fun e => k e (e.upd.map (·.1)) (!e.news.isEmpty)
      | _ => False
  | .pan v => match v.flat with
    | true => kp v
    | false => False

/-- The function that a call by content asks, and its arguments before they are looked at. -/
def snCall (P : Program) [Globs] (cfg : Cfg) (rho : Operand → AVal) (op : Op) : Option (FuncId × List AVal) :=
  match op with
  | .call { callee := .value f, args := args, .. } => match rho f with
    | .fn (.func n) p q => match P.funcs[n]? with
      | some fn => match fn.body.isNone || !cfg.val n || cfg.fz n with
        | false => some (n, p ++ args.toList.map rho ++ q)
        | true => none
      | none => none
    | _ => none
  | _ => none

def stepC1 {ρ : Type} (P : Program) [gl : Globs] (X : Env P) (draw : Bool) (H0 : List ABlk) (ops : Array Oper) (n0 : Nat) (o : Oper) (nid : Nat) (g : G P ρ) (s : St) (k : G P ρ → OpRes → Foot → Prop) : Prop :=
  match g with
  | .skip (n + 1) g' => match stepOp P X.cfg orc0 ops n0 o nid s with
    | some (r, f) => k (G.less n g') r f
    | none => Stuck P ops o s g'
  | .op t kk => wantedA ops s.A o = some true ∧ t.chk gl P X.cfg nid o.op (evalA s.A) s.H ∧ ∀ x, effF (t.eff x) fun e => putF s.A o.dst e.val fun A => applyF e s.H fun H =>
      k (kk x) (.ok { s with A := A, H := H }) (footOf n0 t.ids (.eff e) (e.upd.map (·.1)) (!e.news.isEmpty))
  | .call c x kk => wantedA ops s.A o = some true ∧ callOf ((opPre P X.cfg nid (evalA s.A) o.op).run s.H) = some (c.f, c.args x) ∧
      c.sh.all fun r => match stepOp P X.cfg (orcC (some (c.out r, []))) ops n0 o nid s with
        | some (r', f) => k (kk r) r' f
        | none => Stuck P ops o s (kk r)
  | .callS z c x kk => wantedA ops s.A o = some true ∧ knownC z.bs s.H ∧ snCall P X.cfg (evalA s.A) o.op = some (c.f, z.ain) ∧ some (wkL z.aout) = some (c.args x) ∧
      c.sh.all fun r => match c.out r with
        | .ret u => match u.flat with
          | true => putF s.A o.dst u fun A => k (kk r) (.ok { s with A := A }) (footOf n0 z.rs (.byVal 0 [] false) [] false)
          | false => False
        | .pan u => match u.flat with
          | true => k (kk r) (.pan u s) (footOf n0 z.rs (.byVal 0 [] false) [] false)
          | false => False
  | .callR c x kk => wantedA ops s.A o = some true ∧ refOf s.H ((opPre P X.cfg nid (evalA s.A) o.op).run s.H) = some (c.f, c.args x, c.heap x) ∧
      c.sh.all fun r => match stepOp P X.cfg (orcC (some (c.out r, c.outH x r))) ops n0 o nid s with
        | some (r', f) => k (kk r) r' f
        | none => Stuck P ops o s (kk r)
  | .call1 c b v ex x kk => wantedA ops s.A o = some true ∧ prC ex s.H ∧ ref1 s.H b (call1Of P X.cfg (b :: ex.map (·.b)) (evalA s.A) o.op) = some (c.f, AVal.at0L b v (c.args x), some ((c.blk x).setVer v)) ∧
      c.sh.all fun r => match c.out r with
        | .ret u => putF s.A o.dst (u.at1 b v) fun A => applyF { val := u.at1 b v, upd := [(b, (c.outB x r).setVer v)] } s.H fun H => k (kk r) (.ok { s with A := A, H := H })
            (footOf n0 (idsOf (call1Of P X.cfg (b :: ex.map (·.b)) (evalA s.A) o.op)).2 (.byRef 0 [] []) (idsOf (call1Of P X.cfg (b :: ex.map (·.b)) (evalA s.A) o.op)).1 false)
        | .pan u => k (kk r) (.pan u { s with H := (idsOf (call1Of P X.cfg (b :: ex.map (·.b)) (evalA s.A) o.op)).1.foldl (fun H i => H.set i .dead) s.H })
            (footOf n0 (idsOf (call1Of P X.cfg (b :: ex.map (·.b)) (evalA s.A) o.op)).2 (.byRef 0 [] []) (idsOf (call1Of P X.cfg (b :: ex.map (·.b)) (evalA s.A) o.op)).1 false)
  | .inl pr g' => wantedA ops s.A o = some true ∧ prC pr s.H ∧ match preX P X.cfg (pr.map (·.b)) (evalA s.A) o.op s.H with
    | some (.inl f, args, ids, rs) => headsF (mask ids s.H) fun Hm => X.N.fn f args Hm g' fun g2 a H1 => finC ids s.H a H1 (fun e ws nw => putF s.A o.dst e.val fun A => applyF e s.H fun H => k g2 (.ok { s with A := A, H := H }) (footOf n0 rs (.byRef 0 [] []) ws nw))
        (fun v => k g2 (.pan v { s with H := ids.foldl (fun H i => H.set i .dead) s.H }) (footOf n0 rs (.byRef 0 [] []) ids false))
    | some (.inr b, args, ids, rs) => headsF (mask ids s.H) fun Hm => X.N.rnd b args Hm g' fun g2 a H1 => finC ids s.H a H1 (fun e ws nw => putF s.A o.dst e.val fun A => applyF e s.H fun H => k g2 (.ok { s with A := A, H := H }) (footOf n0 rs (.byRef 0 [] []) ws nw))
        (fun v => k g2 (.pan v { s with H := ids.foldl (fun H i => H.set i .dead) s.H }) (footOf n0 rs (.byRef 0 [] []) ids false))
    | none => Stuck P ops o s g'
  | .pick z seen kk => match draw with
    | true => False
    | false => (match o.op with
        | .next it false => wantedA ops s.A o = some true ∧ (evalA s.A it = .ptr z.b 0 0 0 ∧ s.H[z.b]? = some (.iter (.mp z.mb) z.n seen z.n) ∧ s.H[z.mb]? = some (.map z.n z.es) ∧
            (putF s.A o.dst (.tup [.sc (.bool false)]) fun A => k (kk none) (.ok { s with A := A }) ⟨[], []⟩) ∧
            ∀ i, putF s.A o.dst (.tup [.sc (.bool true), .junk, .junk]) fun A => applyF { val := nothing, upd := [(z.b, .iter (.mp z.mb) z.n (seen ++ [i]) z.n)] } s.H fun H => k (kk (some i)) (.ok { s with A := A, H := H }) ⟨[], []⟩)
        | _ => False)
  | .grow z kk => match draw with
    | true => False
    | false => (match o.op with
        | .call { callee := .builtin .append, args := args, argTypes := ats } => match ats[0]?, ats[1]?, args[0]?, args[1]? with
          | some ST, some XT, some sx, some x => wantedA ops s.A o = some true ∧ s.H[nid]? = some .unborn ∧ decide (args.size = 2) = true ∧ growT P ST XT = some (z.n, z.bytes) ∧ evalA s.A sx = .sl z.b z.ver z.n 0 z.len ∧ s.H[z.b]? = some (.row z.ver z.n (z.l.map z.enc)) ∧
              (elems (evalA s.A x)).run s.H = some (z.m.map z.enc) ∧ (∀ x, (z.enc x).length = z.n) ∧ z.m.isEmpty = false ∧
              (putF s.A o.dst (.sl z.b z.ver z.n 0 (z.l ++ z.m).length) fun A => applyF { val := nothing, upd := [(z.b, .row z.ver z.n ((z.l ++ z.m).map z.enc))] } s.H fun H => k (kk true) (.ok { s with A := A, H := H }) ⟨[], []⟩) ∧
              (putF s.A o.dst (.sl nid 0 z.n 0 (z.l ++ z.m).length) fun A => applyF { val := nothing, upd := [(nid, .row 0 z.n ((z.l ++ z.m).map z.enc))] } s.H fun H => k (kk false) (.ok { s with A := A, H := H }) ⟨[], []⟩)
          | _, _, _, _ => False
        | _ => False)
  | .fail => True
  | .stop => AtOp P X ops n0 o nid s k draw H0
  | g => Stuck P ops o s g

def stepC {ρ : Type} (P : Program) [gl : Globs] (X : Env P) (draw : Bool) (H0 : List ABlk) (ops : Array Oper) (n0 : Nat) (o : Oper) (nid : Nat) (g : G P ρ) (s : St) (k : G P ρ → OpRes → Foot → Prop) : Prop :=
  match g with
  | .tidy l g' => match draw with
    | true => False
    | false => tidyC H0 l s fun s' => stepC1 P X draw H0 ops n0 o nid g' s' k
  | g => stepC1 P X draw H0 ops n0 o nid g s k

def runC {ρ : Type} (P : Program) [Globs] (X : Env P) (draw : Bool) (H0 : List ABlk) (ops : Array Oper) (n0 : Nat) : List (Oper × Nat) → G P ρ → St → (G P ρ → OpRes → List Foot → Prop) → Prop
  | [], g, s, k => k g (.ok s) []
  | (o, nid) :: rest, g, s, k => tickC g s fun g s => stepC P X draw H0 ops n0 o nid g s fun g r f => match r with
    | .ok ⟨A, H, D⟩ => spineF A fun A => spineF H fun H => spineF D fun D => runC P X draw H0 ops n0 rest g ⟨A, H, D⟩ fun g r fs => k g r (f :: fs)
    | .pan v s' => k g (.pan v s') [f]

def regionC {ρ : Type} (P : Program) [Globs] (X : Env P) (H0 : List ABlk) (ops : Array Oper) (draw : Bool) (g : G P ρ) (s : St) (k : G P ρ → OpRes → Prop) : Prop :=
  natF (countAllocs ops.toList) fun c => natF (if c = 0 then 0 else tailFree s.H) fun t => natF (c - t) fun m =>
  newsF s.H (List.replicate m .unborn) fun H1 =>
  natF H1.length fun n0 => runC P X draw H0 ops n0 (numbered (s.H.length - t) ops.toList) g { s with H := H1 } fun g r feet =>
    if !draw then k g r else
    if drawable ops && feet.length == ops.size && indep ops (CheckFast.beforeF ops) feet then
      match r with
      | .ok s' => k g (.ok s')
      | .pan v s' => if feet.all (fun f => f.writes.isEmpty) then k g (.pan v { s' with A := ops.toList.foldl (fun A o => putA A o.dst .junk) s'.A }) else False
    else False

/-- Slots and blocks set in order before what comes. -/
def preC {ρ : Type} (H0 : List ABlk) (g : G P ρ) (s : St) (k : G P ρ → St → Prop) : Prop := match g with
  | .tidy l g' => tidyC H0 l s fun s' => k g' s'
  | g => k g s

/-- Round by round. -/
def iterC {ρ : Type} (f : G P ρ → St → (G P ρ → AOut → St → Prop) → Prop) : Nat → G P ρ → St → (G P ρ → AOut → St → Prop) → Prop
  | 0, _, _, _ => False
  | n + 1, g, s, k => f g s fun g o s' => match o with
    | .normal => iterC f n g s' k
    | o => k g o s'

/-- At the end of a round. -/
def roundC {σ : Type} {sh : Sh} (H0 : List ABlk) (E : σ → St) (X : sh.El → AOut × St) (g : G P (σ ⊕ sh.El)) (o : AOut) (s : St) : Prop :=
  match g with
  | .done ts (.inl a) => tidyC H0 ts s fun s' => (o, s') = (AOut.normal, E a)
  | .done ts (.inr t) => match o with
    | .normal => False
    | o => tidyC H0 ts s fun s' => (o, s') = X t
  | .fail => True
  | _ => AtRound P H0 o s E X

/-- Where ways come together. -/
def joinC {sh : Sh} (H0 : List ABlk) (Y : sh.El → AOut × St) (g : G P sh.El) (o : AOut) (s : St) : Prop :=
  match g with
  | .done ts t => tidyC H0 ts s fun s' => (o, s') = Y t
  | .fail => True
  | _ => AtJoin P H0 o s Y

/-- A condition. -/
def condC {ρ : Type} (P : Program) [Globs] (X : Env P) (H0 : List ABlk) (c : Operand) (a b : Code) (wa wb : G P ρ → St → (G P ρ → AOut → St → Prop) → Prop) (g : G P ρ) (s : St) (k : G P ρ → AOut → St → Prop) : Prop :=
  preC H0 g s fun g s => tickC g s fun g s => match g with
    | .skip (n + 1) g => match evalA s.A c with
      | .sc (.bool true) => wa (G.less n g) s k
      | .sc (.bool false) => wb (G.less n g) s k
      | _ => False
    | .fail => True
    | _ => AtCond P X c a b s k H0

/-- What is behind a block. -/
def blockC {ρ : Type} (id : Nat) (k : G P ρ → AOut → St → Prop) (g : G P ρ) (o : AOut) (s' : St) : Prop := match o with
  | .exit id' => if id' = id then k g .normal s' else k g (.exit id') s'
  | o => k g o s'

/-- What a function's end hands back, with the blocks as they are then. -/
def landR (P : Program) [Globs] (cfg : Cfg) (L : Nat) (fn : Func) (m : Option AVal) (s : St) : Option (ARes × List ABlk) :=
  match leave P cfg orc0 L s.D m s.H with
  | some (m', H') => match ending P fn s.A m' H' with
    | some (.ret v, H1) => some (.ret (wkD v), H1)
    | some (.pan v, H1) => match v.flat with
      | true => some (.pan v, H1)
      | false => none
    | none => none
  | none => none

def landRO (P : Program) [Globs] (cfg : Cfg) (L : Nat) (fn : Func) (o : AOut) (s : St) : Option (ARes × List ABlk) :=
  match o with
  | .normal => landR P cfg L fn none s
  | .ret => landR P cfg L fn none s
  | .pan v => landR P cfg L fn (some v) s
  | .exit _ => none

/-- A loop's body: walked here, or sealed. -/
def sealC {σ : Type} {sh : Sh} (N : Nest P) (ro : Option Nat) (H0 : List ABlk) (b : Code) (E : σ → St) (s : St) (Y : sh.El → AOut × St) (g : G P (σ ⊕ sh.El)) (f : G P (σ ⊕ sh.El) → Prop) : Prop :=
  match g with
  | .shutG _ _ g => N.lp ro H0 b g E s Y
  | g => f g

def gxC (P : Program) [Globs] (X : Env P) (H0 : List ABlk) : Code → {ρ : Type} → G P ρ → St → (G P ρ → AOut → St → Prop) → Prop
  | .skip, _, g, s, k => k g .normal s
  | .region _ ops draw, _, g, s, k => match X.ro.isSome && ops.toList.any putsOff with
    | true => False
    | false => preC H0 g s fun g s => regionC P (X.at draw) H0 ops draw g s fun g r => match r with
      | .ok s' => k g .normal s'
      | .pan v s' => k g (.pan v) s'
  | .seq a b, _, g, s, k => gxC P X H0 a g s fun g o s' => match o with
    | .normal => gxC P X H0 b g s' k
    | o => k g o s'
  | .cond c a b, _, g, s, k => match g with
    | .join sh Y g1 kk => condC P X H0 c a b (fun g s k => gxC P X H0 a g s k) (fun g s k => gxC P X H0 b g s k) g1 s (joinC H0 Y) ∧ sh.all fun t => k (kk t) (Y t).1 (Y t).2
    | g => condC P X H0 c a b (fun g s k => gxC P X H0 a g s k) (fun g s k => gxC P X H0 b g s k) g s k
  | .block id b, _, g, s, k => match g with
    | .join sh Y g1 kk => gxC P X H0 b g1 s (blockC id (joinC H0 Y)) ∧ sh.all fun t => k (kk t) (Y t).1 (Y t).2
    | g => gxC P X H0 b g s (blockC id k)
  | .loop b, _, g, s, k => match g with
    | .unroll n g => iterC (fun g s k => gxC P X H0 b g s k) n g s k
    | .loop sh hd E Y a0 body kk => (tidyC H0 hd s fun s' => s' = E a0) ∧ (∀ a, sealC X.N X.ro H0 b E (E a) Y (body a) fun g => gxC P X H0 b g (E a) (roundC H0 E Y)) ∧ sh.all fun t => k (kk t) (Y t).1 (Y t).2
    | .loopS hs sh hd E Y a0 body kk => (tidyC H0 hd s fun s' => s' = E a0) ∧ (hs.all fun a => sealC X.N X.ro H0 b E (E a) Y (body a) fun g => gxC P X H0 b g (E a) (roundC H0 E Y)) ∧ sh.all fun t => k (kk t) (Y t).1 (Y t).2
    | .fail => True
    | _ => AtLoop P X b s k H0
  | .exit id, _, g, s, k => k g (.exit id) s
  | .ret, _, g, s, k => k g .ret s
  | .rangeFunc f ps assign body, _, g, s, k => preC H0 g s fun g s => match g with
    | .inl pr g => (some true = some true) ∧ match evalA s.A f with
      | .fn (.func n) p q => match enterA X.ro 0 ps assign body s with
        | some (l, H1, D1) => spineF H1 fun H1 => prC pr H1 ∧ match closX (pr.map (·.b)) H1 1000 (AVal.refsL (p ++ [.yld l] ++ q)) [] with
          | some (ids, _) => headsF (mask ids H1) fun Hm => X.N.fn n (p ++ [.yld l] ++ q) Hm g fun g2 a H2 => finC ids H1 a H2
              (fun e _ _ => applyF e H1 fun H3 => match endA l D1 s H3 with
                | some (out, s') => k g2 out s'
                | none => False)
              (fun v => k g2 (.pan v) { s with H := ids.foldl (fun H i => H.set i .dead) H1, D := D1 })
          | none => False
        | none => False
      | _ => False
    | .fail => True
    | _ => AtRange P X f ps assign body s k H0
  | _, _, _, _, _ => False

/-- Do these blocks name none from n on? Of some it is known. -/
def lowB (pr : List Nat) (n : Nat) : Nat → List ABlk → Bool
  | _, [] => true
  | i, x :: xs => (match pr.contains i with
    | true => true
    | false => blkLt n x) && lowB pr n (i + 1) xs

def ARes.refsLt (n : Nat) : ARes → Bool
  | .ret v => v.refsLt n
  | .pan _ => true

/-- New blocks that nobody names are given up. -/
def trimC (pr : List PR) (n : Nat) (a : ARes) (H1 : List ABlk) (k : ARes → List ABlk → Prop) : Prop :=
  prC pr H1 ∧ match a.refsLt n && lowB (pr.map (·.b)) n 0 (H1.take n) with
    | true => spineF (H1.take n) fun H => k a H
    | false => k a H1

/-- The end of a function that is walked through in its place. -/
def endN {ρ : Type} (P : Program) [Globs] (cfg : Cfg) (fn : Func) (H0 : List ABlk) (g : G P ρ) (o : AOut) (s : St) (k : G P ρ → ARes → List ABlk → Prop) : Prop :=
  match g with
  | .tidy ts (.inl pr g) => tidyC H0 ts s fun s => match landRO P cfg 10 fn o s with
    | some (a, H1) => (some true = some true) ∧ trimC pr H0.length a H1 (k g)
    | none => False
  | .fail => True
  | _ => AtEndN P fn o s H0 fun g pr o s => match landRO P cfg 10 fn o s with
    | some (a, H1) => trimC pr H0.length a H1 (k g)
    | none => False

def fnN (P : Program) [Globs] (cfg : Cfg) (nd : Bool) (N : Nest P) {ρ : Type} (f : FuncId) (args : List AVal) (H : List ABlk) (g : G P ρ) (k : G P ρ → ARes → List ABlk → Prop) : Prop :=
  match g with
  | .callR c x kk => conK P f args H c x kk k
  | g => match P.funcs[f]? with
    | some fn => match fn.body with
      | some c => gxC P ⟨cfg, none, N, nd⟩ H c g ⟨frameA fn.ntmps args, H, []⟩ fun g o s => endN P cfg fn H g o s k
      | none => False
    | none => False

/-- The end of a round. -/
def endB {ρ : Type} (P : Program) [Globs] (b : Nat) (H0 : List ABlk) (g : G P ρ) (o : AOut) (s : St) (k : G P ρ → ARes → List ABlk → Prop) : Prop :=
  match jumpOf o with
  | some j => match g with
    | .tidy ts g => tidyC H0 ts s fun s => match marked b (if j.isNone then .ready else .done) j s.H with
      | some H2 => k g (.ret (.sc (.bool j.isNone))) H2
      | none => False
    | .fail => True
    | _ => AtEndB P b o s H0 fun g s => match marked b (if j.isNone then .ready else .done) j s.H with
      | some H2 => k g (.ret (.sc (.bool j.isNone))) H2
      | none => False
  | none => False

def rndN (P : Program) [Globs] (cfg : Cfg) (nd : Bool) (N : Nest P) {ρ : Type} (b : Nat) (args : List AVal) (H : List ABlk) (g : G P ρ) (k : G P ρ → ARes → List ABlk → Prop) : Prop :=
  match H[b]? with
  | some (.loop _ _ _ A ps assign body) => match Nat.beq ps.length args.length with
    | true => gxC P ⟨cfg, some b, N, nd⟩ H assign g ⟨setAll A ps args, H, []⟩ fun g o s1 => match o with
      | .normal => match s1.H[b]? with
        | some (.loop .ready pend1 fid1 A1 ps1 as1 bd1) => spineF (s1.H.set b (.loop .busy pend1 fid1 A1 ps1 as1 bd1)) fun H1 =>
          gxC P ⟨cfg, some b, N, nd⟩ H body g { s1 with H := H1 } fun g o s2 => endB P b H g o s2 k
        | _ => False
      | _ => False
    | false => False
  | _ => False

/-- A loop's body that has been checked. -/
inductive Sealed (P : Program) [Globs] (cfg : Cfg) (nd : Bool) (N : Nest P) (ro : Option Nat) (H0 : List ABlk) (b : Code) {σ : Type} {sh : Sh} (g : G P (σ ⊕ sh.El)) (E : σ → St) (s : St) (Y : sh.El → AOut × St) : Prop
  | mk (h : gxC P ⟨cfg, ro, N, nd⟩ H0 b g s (roundC H0 E Y)) : Sealed P cfg nd N ro H0 b g E s Y

/-- Calls and rounds walked through in their place, to a depth. -/
def nestN (P : Program) [Globs] (cfg : Cfg) (nd : Bool) : Nat → Nest P
  | 0 => nest0 P
  | n + 1 => ⟨fnN P cfg nd (nestN P cfg nd n), rndN P cfg nd (nestN P cfg nd n), fun ro H0 b g E s Y => Sealed P cfg nd (nestN P cfg nd n) ro H0 b g E s Y⟩

def env0 (P : Program) [Globs] (cfg : Cfg) : Env P := ⟨cfg, none, nestN P cfg false 9, false⟩
/-- Where loops over maps may be gone through. -/
def envN (P : Program) [Globs] (cfg : Cfg) : Env P := ⟨cfg, none, nestN P cfg true 9, true⟩

end
end Go.AM
