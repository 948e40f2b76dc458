/- Values worked out before they are handed on: only for the kernel's sake. No program. -/
import Derived.Test.YtinkiagjomllfaaAmI
namespace Go.AM

def natF {α : Type} (n : Nat) (k : Nat → α) : α := match n with | 0 => k 0 | m + 1 => k (m + 1)
theorem natF_eq {α : Type} (n : Nat) (k : Nat → α) : natF n k = k n := by cases n <;> rfl

def intF {α : Type} (n : Int) (k : Int → α) : α := match n with | .ofNat m => natF m fun m => k (.ofNat m) | .negSucc m => natF m fun m => k (.negSucc m)
theorem intF_eq {α : Type} (n : Int) (k : Int → α) : intF n k = k n := by cases n <;> simp [intF, natF_eq]

def valF {α : Type} (v : Value) (k : Value → α) : α := match v with
  | .int t n => intF n fun n => k (.int t n)
  | .bool true => k (.bool true)
  | .bool false => k (.bool false)
  | v => k v
theorem valF_eq {α : Type} (v : Value) (k : Value → α) : valF v k = k v := by
  unfold valF
  split <;> simp [intF_eq]

/-- The row of a list, not what stands in it. -/
def spineF {α β : Type} : List β → (List β → α) → α
  | [], k => k []
  | a :: as, k => spineF as fun as => k (a :: as)
theorem spineF_eq {α β : Type} : ∀ (l : List β) (k : List β → α), spineF l k = k l
  | [], _ => rfl
  | a :: as, k => by simp only [spineF, spineF_eq as]

def rowsF {α : Type} : List (List AVal) → (List (List AVal) → α) → α
  | [], k => k []
  | a :: as, k => spineF a fun a => rowsF as fun as => k (a :: as)
theorem rowsF_eq {α : Type} : ∀ (v : List (List AVal)) (k : List (List AVal) → α), rowsF v k = k v
  | [], k => by simp only [rowsF]
  | a :: as, k => by simp only [rowsF, spineF_eq a, rowsF_eq as]

/-- A value's head: what it holds has been worked out before. -/
def avF {α : Type} : AVal → (AVal → α) → α
  | .sc v, k => valF v fun v => k (.sc v)
  | .agg cs, k => spineF cs fun cs => k (.agg cs)
  | .tup cs, k => spineF cs fun cs => k (.tup cs)
  | .ptr b ver i o, k => natF b fun b => natF ver fun ver => natF i fun i => natF o fun o => k (.ptr b ver i o)
  | .cptr cs o, k => spineF cs fun cs => natF o fun o => k (.cptr cs o)
  | .sl b ver sz o n, k => natF b fun b => natF ver fun ver => natF sz fun sz => natF o fun o => natF n fun n => k (.sl b ver sz o n)
  | .lst rows, k => rowsF rows fun rows => k (.lst rows)
  | .fn f a b, k => spineF a fun a => spineF b fun b => k (.fn f a b)
  | .ifc t v, k => avF v fun v => k (.ifc t v)
  | .mp b, k => natF b fun b => k (.mp b)
  | .yld b, k => natF b fun b => k (.yld b)
  | .sa b ver i o s n, k => natF b fun b => natF ver fun ver => natF i fun i => natF o fun o => natF s fun s => natF n fun n => k (.sa b ver i o s n)
  | .glob i o, k => natF i fun i => natF o fun o => k (.glob i o)
  | .emp, k => k .emp
  | .junk, k => k .junk
theorem avF_eq {α : Type} : ∀ (v : AVal) (k : AVal → α), avF v k = k v
  | .sc v, k => by simp [avF, valF_eq]
  | .agg cs, k => by simp only [avF, spineF_eq cs]
  | .tup cs, k => by simp only [avF, spineF_eq cs]
  | .ptr .., k => by simp only [avF, natF_eq]
  | .cptr cs o, k => by simp only [avF, spineF_eq cs, natF_eq]
  | .sl .., k => by simp only [avF, natF_eq]
  | .lst rows, k => by simp only [avF, rowsF_eq rows]
  | .fn f a b, k => by simp only [avF, spineF_eq a, spineF_eq b]
  | .ifc t v, k => by simp only [avF, avF_eq v]
  | .mp b, k => by simp only [avF, natF_eq]
  | .yld b, k => by simp only [avF, natF_eq]
  | .sa .., k => by simp only [avF, natF_eq]
  | .glob i o, k => by simp only [avF, natF_eq]
  | .emp, k => by simp only [avF]
  | .junk, k => by simp only [avF]

def avsF {α : Type} : List AVal → (List AVal → α) → α
  | [], k => k []
  | a :: as, k => avF a fun a => avsF as fun as => k (a :: as)
theorem avsF_eq {α : Type} : ∀ (v : List AVal) (k : List AVal → α), avsF v k = k v
  | [], k => by simp only [avsF]
  | a :: as, k => by simp only [avsF, avF_eq a, avsF_eq as]

def entsF {α : Type} : List (AVal × AVal × Nat) → (List (AVal × AVal × Nat) → α) → α
  | [], k => k []
  | a :: as, k => avF a.1 fun x => avF a.2.1 fun y => natF a.2.2 fun z => entsF as fun as => k ((x, y, z) :: as)
theorem entsF_eq {α : Type} : ∀ (l : List (AVal × AVal × Nat)) (k : List (AVal × AVal × Nat) → α), entsF l k = k l
  | [], k => rfl
  | a :: as, k => by simp only [entsF, avF_eq, natF_eq, entsF_eq as]

def blkF {α : Type} (x : ABlk) (k : ABlk → α) : α := match x with
  | .unborn => k .unborn
  | .dead => k .dead
  | .row ver sz rows => natF ver fun ver => natF sz fun sz => rowsF rows fun rows => k (.row ver sz rows)
  | .map clock es => natF clock fun clock => entsF es fun es => k (.map clock es)
  | .loop st pend fid A ps assign body => spineF A fun A => k (.loop st pend fid A ps assign body)
  | .defs => k .defs
theorem blkF_eq {α : Type} (x : ABlk) (k : ABlk → α) : blkF x k = k x := by
  cases x <;> simp only [blkF, natF_eq, rowsF_eq, entsF_eq, spineF_eq]

def setF {α β : Type} : List β → Nat → β → (List β → α) → α
  | [], _, _, k => k []
  | _ :: as, 0, v, k => k (v :: as)
  | a :: as, d + 1, v, k => setF as d v fun as => k (a :: as)
theorem setF_eq {α β : Type} : ∀ (l : List β) (d : Nat) (v : β) (k : List β → α), setF l d v k = k (l.set d v)
  | [], _, _, _ => rfl
  | _ :: _, 0, _, _ => rfl
  | a :: as, d + 1, v, k => by simp only [setF, setF_eq as, List.set_cons_succ]

def blksF {α : Type} : List ABlk → (List ABlk → α) → α
  | [], k => k []
  | a :: as, k => blkF a fun a => blksF as fun as => k (a :: as)
theorem blksF_eq {α : Type} : ∀ (l : List ABlk) (k : List ABlk → α), blksF l k = k l
  | [], _ => rfl
  | a :: as, k => by simp only [blksF, blkF_eq, blksF_eq as]

def headF {α : Type} (x : ABlk) (k : ABlk → α) : α := match x with
  | .unborn => k .unborn
  | .dead => k .dead
  | .row ver sz rows => k (.row ver sz rows)
  | .map clock es => k (.map clock es)
  | .loop st pend fid A ps assign body => k (.loop st pend fid A ps assign body)
  | .defs => k .defs
theorem headF_eq {α : Type} (x : ABlk) (k : ABlk → α) : headF x k = k x := by cases x <;> rfl

def headsF {α : Type} : List ABlk → (List ABlk → α) → α
  | [], k => k []
  | a :: as, k => headF a fun a => headsF as fun as => k (a :: as)
theorem headsF_eq {α : Type} : ∀ (l : List ABlk) (k : List ABlk → α), headsF l k = k l
  | [], _ => rfl
  | a :: as, k => by simp only [headsF, headF_eq, headsF_eq as]

def updF {α : Type} : List (Nat × ABlk) → (List (Nat × ABlk) → α) → α
  | [], k => k []
  | a :: as, k => natF a.1 fun n => blkF a.2 fun x => updF as fun as => k ((n, x) :: as)
theorem updF_eq {α : Type} : ∀ (l : List (Nat × ABlk)) (k : List (Nat × ABlk) → α), updF l k = k l
  | [], _ => rfl
  | a :: as, k => by simp only [updF, natF_eq, blkF_eq, updF_eq as]

def effF {α : Type} (e : Eff) (k : Eff → α) : α := avF e.val fun v => updF e.upd fun u => blksF e.news fun n => k { val := v, upd := u, news := n }
theorem effF_eq {α : Type} (e : Eff) (k : Eff → α) : effF e k = k e := by simp only [effF, avF_eq, updF_eq, blksF_eq]

/-- Blocks given anew. -/
def updsF {α : Type} : List (Nat × ABlk) → List ABlk → (List ABlk → α) → α
  | [], H, k => k H
  | p :: ps, H, k => setF H p.1 p.2 fun H => updsF ps H k
theorem updsF_eq {α : Type} : ∀ (l : List (Nat × ABlk)) (H : List ABlk) (k : List ABlk → α), updsF l H k = k (l.foldl (fun H p => H.set p.1 p.2) H)
  | [], _, _ => rfl
  | p :: ps, H, k => by simp only [updsF, setF_eq, updsF_eq ps, List.foldl_cons]

def newsF {α : Type} (H : List ABlk) (l : List ABlk) (k : List ABlk → α) : α := match l with
  | [] => k H
  | a :: as => spineF (H ++ a :: as) k
theorem newsF_eq {α : Type} (H l : List ABlk) (k : List ABlk → α) : newsF H l k = k (H ++ l) := by
  cases l <;> simp [newsF, spineF_eq]

/-- What an operation leaves of the heap. -/
def applyF {α : Type} (e : Eff) (H : List ABlk) (k : List ABlk → α) : α := updsF e.upd H fun H => newsF H e.news k
theorem applyF_eq {α : Type} (e : Eff) (H : List ABlk) (k : List ABlk → α) : applyF e H k = k (e.apply H) := by
  simp only [applyF, updsF_eq, newsF_eq, Eff.apply]

end Go.AM
