/- Values worked out before they are handed on: only for the kernel's sake. No program. -/
import Derived.Test.YthacencknomblaaAmI
namespace Go.AM

def natF {α : Type} (n : Nat) (k : Nat → α) : α := match n with | 0 => k 0 | m + 1 => k (m + 1)
theorem natF_eq {α : Type} (n : Nat) (k : Nat → α) : natF n k = k n := by cases n <;> rfl

def intF {α : Type} (n : Int) (k : Int → α) : α := match n with | .ofNat m => natF m fun m => k (.ofNat m) | .negSucc m => natF m fun m => k (.negSucc m)
theorem intF_eq {α : Type} (n : Int) (k : Int → α) : intF n k = k n := by cases n <;> simp [intF, natF_eq]

def valF {α : Type} (v : Value) (k : Value → α) : α := match v with
  | .int t n => intF n fun n => k (.int t n)
  | .bool true => k (.bool true)
  | .bool false => k (.bool false)
  | v => k v
theorem valF_eq {α : Type} (v : Value) (k : Value → α) : valF v k = k v := by
  unfold valF
  split <;> simp [intF_eq]

mutual
def avF {α : Type} : AVal → (AVal → α) → α
  | .sc v, k => valF v fun v => k (.sc v)
  | .agg cs, k => avsF cs fun cs => k (.agg cs)
  | .tup cs, k => avsF cs fun cs => k (.tup cs)
  | .ptr b ver i o, k => natF b fun b => natF ver fun ver => natF i fun i => natF o fun o => k (.ptr b ver i o)
  | .cptr cs o, k => avsF cs fun cs => natF o fun o => k (.cptr cs o)
  | .sl b ver sz o n, k => natF b fun b => natF ver fun ver => natF sz fun sz => natF o fun o => natF n fun n => k (.sl b ver sz o n)
  | .lst rows, k => rowsF rows fun rows => k (.lst rows)
  | .fn f a b, k => avsF a fun a => avsF b fun b => k (.fn f a b)
  | .ifc t v, k => avF v fun v => k (.ifc t v)
  | .mp b, k => natF b fun b => k (.mp b)
  | .junk, k => k .junk
def avsF {α : Type} : List AVal → (List AVal → α) → α
  | [], k => k []
  | a :: as, k => avF a fun a => avsF as fun as => k (a :: as)
def rowsF {α : Type} : List (List AVal) → (List (List AVal) → α) → α
  | [], k => k []
  | a :: as, k => avsF a fun a => rowsF as fun as => k (a :: as)
end

mutual
theorem avF_eq {α : Type} : ∀ (v : AVal) (k : AVal → α), avF v k = k v
  | .sc v, k => by simp [avF, valF_eq]
  | .agg cs, k => by simp only [avF, avsF_eq cs]
  | .tup cs, k => by simp only [avF, avsF_eq cs]
  | .ptr .., k => by simp only [avF, natF_eq]
  | .cptr cs o, k => by simp only [avF, avsF_eq cs, natF_eq]
  | .sl .., k => by simp only [avF, natF_eq]
  | .lst rows, k => by simp only [avF, rowsF_eq rows]
  | .fn f a b, k => by simp only [avF, avsF_eq a, avsF_eq b]
  | .ifc t v, k => by simp only [avF, avF_eq v]
  | .mp b, k => by simp only [avF, natF_eq]
  | .junk, k => by simp only [avF]
theorem avsF_eq {α : Type} : ∀ (v : List AVal) (k : List AVal → α), avsF v k = k v
  | [], k => by simp only [avsF]
  | a :: as, k => by simp only [avsF, avF_eq a, avsF_eq as]
theorem rowsF_eq {α : Type} : ∀ (v : List (List AVal)) (k : List (List AVal) → α), rowsF v k = k v
  | [], k => by simp only [rowsF]
  | a :: as, k => by simp only [rowsF, avsF_eq a, rowsF_eq as]
end

def entsF {α : Type} : List (AVal × AVal × Nat) → (List (AVal × AVal × Nat) → α) → α
  | [], k => k []
  | a :: as, k => avF a.1 fun x => avF a.2.1 fun y => natF a.2.2 fun z => entsF as fun as => k ((x, y, z) :: as)
theorem entsF_eq {α : Type} : ∀ (l : List (AVal × AVal × Nat)) (k : List (AVal × AVal × Nat) → α), entsF l k = k l
  | [], k => rfl
  | a :: as, k => by simp only [entsF, avF_eq, natF_eq, entsF_eq as]

def blkF {α : Type} (x : ABlk) (k : ABlk → α) : α := match x with
  | .unborn => k .unborn
  | .dead => k .dead
  | .row ver sz rows => natF ver fun ver => natF sz fun sz => rowsF rows fun rows => k (.row ver sz rows)
  | .map clock es => natF clock fun clock => entsF es fun es => k (.map clock es)
theorem blkF_eq {α : Type} (x : ABlk) (k : ABlk → α) : blkF x k = k x := by
  cases x <;> simp only [blkF, natF_eq, rowsF_eq, entsF_eq]

/-- The row of a list, not what stands in it. -/
def spineF {α β : Type} : List β → (List β → α) → α
  | [], k => k []
  | a :: as, k => spineF as fun as => k (a :: as)
theorem spineF_eq {α β : Type} : ∀ (l : List β) (k : List β → α), spineF l k = k l
  | [], _ => rfl
  | a :: as, k => by simp only [spineF, spineF_eq as]

def setF {α β : Type} : List β → Nat → β → (List β → α) → α
  | [], _, _, k => k []
  | _ :: as, 0, v, k => k (v :: as)
  | a :: as, d + 1, v, k => setF as d v fun as => k (a :: as)
theorem setF_eq {α β : Type} : ∀ (l : List β) (d : Nat) (v : β) (k : List β → α), setF l d v k = k (l.set d v)
  | [], _, _, _ => rfl
  | _ :: _, 0, _, _ => rfl
  | a :: as, d + 1, v, k => by simp only [setF, setF_eq as, List.set_cons_succ]

def blksF {α : Type} : List ABlk → (List ABlk → α) → α
  | [], k => k []
  | a :: as, k => blkF a fun a => blksF as fun as => k (a :: as)
theorem blksF_eq {α : Type} : ∀ (l : List ABlk) (k : List ABlk → α), blksF l k = k l
  | [], _ => rfl
  | a :: as, k => by simp only [blksF, blkF_eq, blksF_eq as]

def headF {α : Type} (x : ABlk) (k : ABlk → α) : α := match x with
  | .unborn => k .unborn
  | .dead => k .dead
  | .row ver sz rows => k (.row ver sz rows)
  | .map clock es => k (.map clock es)
theorem headF_eq {α : Type} (x : ABlk) (k : ABlk → α) : headF x k = k x := by cases x <;> rfl

def headsF {α : Type} : List ABlk → (List ABlk → α) → α
  | [], k => k []
  | a :: as, k => headF a fun a => headsF as fun as => k (a :: as)
theorem headsF_eq {α : Type} : ∀ (l : List ABlk) (k : List ABlk → α), headsF l k = k l
  | [], _ => rfl
  | a :: as, k => by simp only [headsF, headF_eq, headsF_eq as]

def updF {α : Type} : List (Nat × ABlk) → (List (Nat × ABlk) → α) → α
  | [], k => k []
  | a :: as, k => natF a.1 fun n => blkF a.2 fun x => updF as fun as => k ((n, x) :: as)
theorem updF_eq {α : Type} : ∀ (l : List (Nat × ABlk)) (k : List (Nat × ABlk) → α), updF l k = k l
  | [], _ => rfl
  | a :: as, k => by simp only [updF, natF_eq, blkF_eq, updF_eq as]

def effF {α : Type} (e : Eff) (k : Eff → α) : α := avF e.val fun v => updF e.upd fun u => blksF e.news fun n => k { val := v, upd := u, news := n }
theorem effF_eq {α : Type} (e : Eff) (k : Eff → α) : effF e k = k e := by simp only [effF, avF_eq, updF_eq, blksF_eq]

end Go.AM
