/- Values worked out before they are handed on: only for the kernel's sake. No program. -/
import Derived.Test.YtbfglcegmhgjdaaGreatDoorAmI
namespace Go.AM

def natF {α : Type} (n : Nat) (k : Nat → α) : α := match n with | 0 => k 0 | m + 1 => k (m + 1)
theorem natF_eq {α : Type} (n : Nat) (k : Nat → α) : natF n k = k n := by cases n <;> rfl

def intF {α : Type} (n : Int) (k : Int → α) : α := match n with | .ofNat m => natF m fun m => k (.ofNat m) | .negSucc m => natF m fun m => k (.negSucc m)
theorem intF_eq {α : Type} (n : Int) (k : Int → α) : intF n k = k n := by cases n <;> simp [intF, natF_eq]

/-- Are numbers left as they are? -/
def lz [g : Globs] : Bool := g.default.lazy

/-- A number of which nothing is asked. -/
def numF [Globs] {α : Type} (n : Nat) (k : Nat → α) : α := match lz with
  | true => k n
  | false => natF n k
theorem numF_eq [Globs] {α : Type} (n : Nat) (k : Nat → α) : numF n k = k n := by unfold numF; split <;> simp [natF_eq]

def valF [Globs] {α : Type} (v : Value) (k : Value → α) : α := match v with
  | .int t n => match lz with
    | true => k (.int t n)
    | false => intF n fun n => k (.int t n)
  | .bool b => match lz with
    | true => k (.bool b)
    | false => match b with
      | true => k (.bool true)
      | false => k (.bool false)
  | v => k v
theorem valF_eq [Globs] {α : Type} (v : Value) (k : Value → α) : valF v k = k v := by
  unfold valF
  grind [intF_eq]

/-- The row of a list, not what stands in it. -/
def spineF {α β : Type} : List β → (List β → α) → α
  | [], k => k []
  | a :: as, k => spineF as fun as => k (a :: as)
theorem spineF_eq {α β : Type} : ∀ (l : List β) (k : List β → α), spineF l k = k l
  | [], _ => rfl
  | a :: as, k => by simp only [spineF, spineF_eq as]

def rowsF1 {α : Type} : List (List AVal) → (List (List AVal) → α) → α
  | [], k => k []
  | a :: as, k => spineF a fun a => rowsF1 as fun as => k (a :: as)
theorem rowsF1_eq {α : Type} : ∀ (v : List (List AVal)) (k : List (List AVal) → α), rowsF1 v k = k v
  | [], k => by simp only [rowsF1]
  | a :: as, k => by simp only [rowsF1, spineF_eq a, rowsF1_eq as]

def rowsF [Globs] {α : Type} (v : List (List AVal)) (k : List (List AVal) → α) : α := match lz with
  | true => k v
  | false => rowsF1 v k
theorem rowsF_eq [Globs] {α : Type} (v : List (List AVal)) (k : List (List AVal) → α) : rowsF v k = k v := by grind [rowsF, rowsF1_eq]

def rowF [Globs] {α : Type} (v : List AVal) (k : List AVal → α) : α := match lz with
  | true => k v
  | false => spineF v k
theorem rowF_eq [Globs] {α : Type} (v : List AVal) (k : List AVal → α) : rowF v k = k v := by unfold rowF; split <;> simp [spineF_eq]

/-- A value's head: what it holds has been worked out before. -/
def avF [Globs] {α : Type} : AVal → (AVal → α) → α
  | .sc v, k => valF v fun v => k (.sc v)
  | .agg cs, k => spineF cs fun cs => k (.agg cs)
  | .tup cs, k => spineF cs fun cs => k (.tup cs)
  | .ptr b ver i o, k => natF b fun b => natF ver fun ver => numF i fun i => numF o fun o => k (.ptr b ver i o)
  | .cptr cs o, k => rowF cs fun cs => numF o fun o => k (.cptr cs o)
  | .sl b ver sz o n, k => natF b fun b => natF ver fun ver => natF sz fun sz => numF o fun o => numF n fun n => k (.sl b ver sz o n)
  | .lst rows, k => rowsF rows fun rows => k (.lst rows)
  | .tls rows, k => rowsF rows fun rows => k (.tls rows)
  | .fn f a b, k => spineF a fun a => spineF b fun b => k (.fn f a b)
  | .ifc t v, k => avF v fun v => k (.ifc t v)
  | .mp b, k => natF b fun b => k (.mp b)
  | .yld b, k => natF b fun b => k (.yld b)
  | .sa b ver i o s n, k => natF b fun b => natF ver fun ver => numF i fun i => numF o fun o => natF s fun s => numF n fun n => k (.sa b ver i o s n)
  | .glob i o, k => natF i fun i => natF o fun o => k (.glob i o)
  | .emp, k => k .emp
  | .nz b, k => k (.nz b)
  | .junk, k => k .junk
theorem avF_eq [Globs] {α : Type} : ∀ (v : AVal) (k : AVal → α), avF v k = k v
  | .sc v, k => by simp [avF, valF_eq]
  | .agg cs, k => by simp only [avF, spineF_eq cs]
  | .tup cs, k => by simp only [avF, spineF_eq cs]
  | .ptr .., k => by simp only [avF, natF_eq, numF_eq]
  | .cptr cs o, k => by simp only [avF, rowF_eq cs, numF_eq]
  | .sl .., k => by simp only [avF, natF_eq, numF_eq]
  | .lst rows, k => by simp only [avF, rowsF_eq rows]
  | .tls rows, k => by simp only [avF, rowsF_eq rows]
  | .fn f a b, k => by grind [avF, spineF_eq]
  | .ifc t v, k => by simp only [avF, avF_eq v]
  | .mp b, k => by simp only [avF, natF_eq]
  | .yld b, k => by simp only [avF, natF_eq]
  | .sa .., k => by simp only [avF, natF_eq, numF_eq]
  | .glob i o, k => by simp only [avF, natF_eq]
  | .emp, k => by simp only [avF]
  | .nz b, k => by simp only [avF]
  | .junk, k => by simp only [avF]

def avsF [Globs] {α : Type} : List AVal → (List AVal → α) → α
  | [], k => k []
  | a :: as, k => avF a fun a => avsF as fun as => k (a :: as)
theorem avsF_eq [Globs] {α : Type} : ∀ (v : List AVal) (k : List AVal → α), avsF v k = k v
  | [], k => by simp only [avsF]
  | a :: as, k => by simp only [avsF, avF_eq a, avsF_eq as]

def entsF1 [Globs] {α : Type} : List (AVal × AVal × Nat) → (List (AVal × AVal × Nat) → α) → α
  | [], k => k []
  | a :: as, k => avF a.1 fun x => avF a.2.1 fun y => natF a.2.2 fun z => entsF1 as fun as => k ((x, y, z) :: as)
theorem entsF1_eq [Globs] {α : Type} : ∀ (l : List (AVal × AVal × Nat)) (k : List (AVal × AVal × Nat) → α), entsF1 l k = k l
  | [], k => rfl
  | a :: as, k => by simp only [entsF1, avF_eq, natF_eq, entsF1_eq as]

def entsF [Globs] {α : Type} (l : List (AVal × AVal × Nat)) (k : List (AVal × AVal × Nat) → α) : α := match lz with
  | true => k l
  | false => entsF1 l k
theorem entsF_eq [Globs] {α : Type} (l : List (AVal × AVal × Nat)) (k : List (AVal × AVal × Nat) → α) : entsF l k = k l := by grind [entsF, entsF1_eq]

def blkF [Globs] {α : Type} (x : ABlk) (k : ABlk → α) : α := match x with
  | .unborn => k .unborn
  | .dead => k .dead
  | .row ver sz rows => natF ver fun ver => natF sz fun sz => rowsF rows fun rows => k (.row ver sz rows)
  | .map clock es => numF clock fun clock => entsF es fun es => k (.map clock es)
  | .loop st pend fid A ps assign body => spineF A fun A => k (.loop st pend fid A ps assign body)
  | .defs => k .defs
  | .iter m since seen stepped => k (.iter m since seen stepped)
theorem blkF_eq [Globs] {α : Type} (x : ABlk) (k : ABlk → α) : blkF x k = k x := by
  cases x <;> simp only [blkF, natF_eq, numF_eq, rowsF_eq, entsF_eq, spineF_eq]

def setF {α β : Type} : List β → Nat → β → (List β → α) → α
  | [], _, _, k => k []
  | _ :: as, 0, v, k => k (v :: as)
  | a :: as, d + 1, v, k => setF as d v fun as => k (a :: as)
theorem setF_eq {α β : Type} : ∀ (l : List β) (d : Nat) (v : β) (k : List β → α), setF l d v k = k (l.set d v)
  | [], _, _, _ => rfl
  | _ :: _, 0, _, _ => rfl
  | a :: as, d + 1, v, k => by simp only [setF, setF_eq as, List.set_cons_succ]

def blksF [Globs] {α : Type} : List ABlk → (List ABlk → α) → α
  | [], k => k []
  | a :: as, k => blkF a fun a => blksF as fun as => k (a :: as)
theorem blksF_eq [Globs] {α : Type} : ∀ (l : List ABlk) (k : List ABlk → α), blksF l k = k l
  | [], _ => rfl
  | a :: as, k => by simp only [blksF, blkF_eq, blksF_eq as]

def headF {α : Type} (x : ABlk) (k : ABlk → α) : α := match x with
  | .unborn => k .unborn
  | .dead => k .dead
  | .row ver sz rows => k (.row ver sz rows)
  | .map clock es => k (.map clock es)
  | .loop st pend fid A ps assign body => k (.loop st pend fid A ps assign body)
  | .defs => k .defs
  | .iter m since seen stepped => k (.iter m since seen stepped)
theorem headF_eq {α : Type} (x : ABlk) (k : ABlk → α) : headF x k = k x := by cases x <;> rfl

def headsF {α : Type} : List ABlk → (List ABlk → α) → α
  | [], k => k []
  | a :: as, k => headF a fun a => headsF as fun as => k (a :: as)
theorem headsF_eq {α : Type} : ∀ (l : List ABlk) (k : List ABlk → α), headsF l k = k l
  | [], _ => rfl
  | a :: as, k => by simp only [headsF, headF_eq, headsF_eq as]

def updF [Globs] {α : Type} : List (Nat × ABlk) → (List (Nat × ABlk) → α) → α
  | [], k => k []
  | a :: as, k => natF a.1 fun n => blkF a.2 fun x => updF as fun as => k ((n, x) :: as)
theorem updF_eq [Globs] {α : Type} : ∀ (l : List (Nat × ABlk)) (k : List (Nat × ABlk) → α), updF l k = k l
  | [], _ => rfl
  | a :: as, k => by simp only [updF, natF_eq, blkF_eq, updF_eq as]

def effF [Globs] {α : Type} (e : Eff) (k : Eff → α) : α := avF e.val fun v => updF e.upd fun u => blksF e.news fun n => k { val := v, upd := u, news := n }
theorem effF_eq [Globs] {α : Type} (e : Eff) (k : Eff → α) : effF e k = k e := by simp only [effF, avF_eq, updF_eq, blksF_eq]

/-- Blocks given anew. -/
def updsF {α : Type} : List (Nat × ABlk) → List ABlk → (List ABlk → α) → α
  | [], H, k => k H
  | p :: ps, H, k => setF H p.1 p.2 fun H => updsF ps H k
theorem updsF_eq {α : Type} : ∀ (l : List (Nat × ABlk)) (H : List ABlk) (k : List ABlk → α), updsF l H k = k (l.foldl (fun H p => H.set p.1 p.2) H)
  | [], _, _ => rfl
  | p :: ps, H, k => by simp only [updsF, setF_eq, updsF_eq ps, List.foldl_cons]

def newsF {α : Type} (H : List ABlk) (l : List ABlk) (k : List ABlk → α) : α := match l with
  | [] => k H
  | a :: as => spineF (H ++ a :: as) k
theorem newsF_eq {α : Type} (H l : List ABlk) (k : List ABlk → α) : newsF H l k = k (H ++ l) := by
  cases l <;> simp [newsF, spineF_eq]

/-- What an operation leaves of the heap. -/
def applyF {α : Type} (e : Eff) (H : List ABlk) (k : List ABlk → α) : α := updsF e.upd H fun H => newsF H e.news k
theorem applyF_eq {α : Type} (e : Eff) (H : List ABlk) (k : List ABlk → α) : applyF e H k = k (e.apply H) := by
  simp only [applyF, updsF_eq, newsF_eq, Eff.apply]

def bytesSame : List UInt8 → List UInt8 → Bool
  | [], [] => true
  | a :: as, b :: bs => a.toNat == b.toNat && bytesSame as bs
  | _, _ => false
theorem bytesSame_eq : ∀ {a b : List UInt8}, bytesSame a b = true → a = b
  | [], [], _ => rfl
  | a :: as, b :: bs, h => by
    simp only [bytesSame, Bool.and_eq_true, beq_iff_eq] at h
    rw [UInt8.toNat_inj.1 h.1, bytesSame_eq h.2]
  | [], _ :: _, h => by simp [bytesSame] at h
  | _ :: _, [], h => by simp [bytesSame] at h

def vsame : Value → Value → Bool
  | .int k a, .int k' b => decide (k = k') && decide (a = b)
  | .bool a, .bool b => a == b
  | .string a, .string b => bytesSame a.data.toList b.data.toList
  | .nilIface, .nilIface => true
  | .nilFunc, .nilFunc => true
  | .slice none 0 0, .slice none 0 0 => true
  | .pointer none, .pointer none => true
  | .map none, .map none => true
  | .tuple a, .tuple b => a.size == 0 && b.size == 0
  | _, _ => false

theorem vsame_eq : ∀ {a b : Value}, vsame a b = true → a = b := by
  intro a b h
  unfold vsame at h
  split at h <;> try rfl
  · grind
  · simp only [beq_iff_eq] at h; rw [h]
  · rename_i a b
    have := bytesSame_eq h
    obtain ⟨a⟩ := a; simp_all
  · grind
  · cases h

mutual
def same : AVal → AVal → Bool
  | .sc v, .sc u => vsame v u
  | .agg a, .agg b => sameL a b
  | .tup a, .tup b => sameL a b
  | .cptr a o, .cptr b o' => sameL a b && o == o'
  | .lst a, .lst b => sameLL a b
  | .tls a, .tls b => sameLL a b
  | .fn (.func f) a b, .fn (.func f') a' b' => f == f' && sameL a a' && sameL b b'
  | .ifc t a, .ifc t' b => t == t' && same a b
  | .glob i o, .glob i' o' => i == i' && o == o'
  | .ptr b v i o, .ptr b' v' i' o' => b == b' && v == v' && i == i' && o == o'
  | .sl b v s o n, .sl b' v' s' o' n' => b == b' && v == v' && s == s' && o == o' && n == n'
  | .sa b v i o s n, .sa b' v' i' o' s' n' => b == b' && v == v' && i == i' && o == o' && s == s' && n == n'
  | .mp b, .mp b' => b == b'
  | .yld b, .yld b' => b == b'
  | .emp, .emp => true
  | .nz b, .nz b' => b == b'
  | .junk, .junk => true
  | _, _ => false
def sameL : List AVal → List AVal → Bool
  | [], [] => true
  | a :: as, b :: bs => same a b && sameL as bs
  | _, _ => false
def sameLL : List (List AVal) → List (List AVal) → Bool
  | [], [] => true
  | a :: as, b :: bs => sameL a b && sameLL as bs
  | _, _ => false
end

mutual
theorem same_eq : ∀ (a b : AVal), same a b = true → a = b
  | .sc v, b, h => by cases b <;> simp [same] at h; rw [vsame_eq h]
  | .agg x, b, h => by cases b <;> simp [same] at h; rw [sameL_eq _ _ h]
  | .tup x, b, h => by cases b <;> simp [same] at h; rw [sameL_eq _ _ h]
  | .ptr .., b, h => by cases b <;> simp [same] at h; grind
  | .cptr x o, b, h => by cases b <;> simp [same] at h; rw [sameL_eq _ _ h.1, h.2]
  | .sl .., b, h => by cases b <;> simp [same] at h; grind
  | .lst x, b, h => by cases b <;> simp [same] at h; rw [sameLL_eq _ _ h]
  | .tls x, b, h => by cases b <;> simp [same] at h; rw [sameLL_eq _ _ h]
  | .fn f x y, b, h => by
    cases b with
    | fn g x' y' =>
      cases f <;> cases g <;> simp [same] at h
      obtain ⟨⟨h1, h2⟩, h3⟩ := h
      rw [h1, sameL_eq _ _ h2, sameL_eq _ _ h3]
    | _ => cases f <;> simp [same] at h
  | .ifc t x, b, h => by cases b <;> simp [same] at h; rw [h.1, same_eq _ _ h.2]
  | .mp _, b, h => by cases b <;> simp [same] at h; rw [h]
  | .yld _, b, h => by cases b <;> simp [same] at h; rw [h]
  | .sa .., b, h => by cases b <;> simp [same] at h; grind
  | .glob i o, b, h => by cases b <;> simp [same] at h; rw [h.1, h.2]
  | .emp, b, h => by cases b <;> simp [same] at h; rfl
  | .nz _, b, h => by cases b <;> simp [same] at h; rw [h]
  | .junk, b, h => by cases b <;> simp [same] at h; rfl
theorem sameL_eq : ∀ (a b : List AVal), sameL a b = true → a = b
  | [], b, h => by cases b <;> simp [sameL] at h; rfl
  | a :: as, b, h => by cases b <;> simp [sameL] at h; rw [same_eq _ _ h.1, sameL_eq _ _ h.2]
theorem sameLL_eq : ∀ (a b : List (List AVal)), sameLL a b = true → a = b
  | [], b, h => by cases b <;> simp [sameLL] at h; rfl
  | a :: as, b, h => by cases b <;> simp [sameLL] at h; rw [sameL_eq _ _ h.1, sameLL_eq _ _ h.2]
end

def sameEs : List (AVal × AVal × Nat) → List (AVal × AVal × Nat) → Bool
  | [], [] => true
  | a :: as, b :: bs => same a.1 b.1 && same a.2.1 b.2.1 && a.2.2 == b.2.2 && sameEs as bs
  | _, _ => false
theorem sameEs_eq : ∀ (a b : List (AVal × AVal × Nat)), sameEs a b = true → a = b
  | [], b, h => by cases b <;> simp [sameEs] at h; rfl
  | (k, v, n) :: as, b, h => by
    cases b with
    | nil => simp [sameEs] at h
    | cons b bs =>
      obtain ⟨k', v', n'⟩ := b
      simp only [sameEs, Bool.and_eq_true, beq_iff_eq] at h
      rw [same_eq _ _ h.1.1.1, same_eq _ _ h.1.1.2, h.1.2, sameEs_eq _ _ h.2]

/-- Two blocks hold the same. -/
def sameBlk : ABlk → ABlk → Bool
  | .unborn, .unborn => true
  | .dead, .dead => true
  | .row v s r, .row v' s' r' => v == v' && s == s' && sameLL r r'
  | .map c es, .map c' es' => c == c' && sameEs es es'
  | _, _ => false
theorem sameBlk_eq {a b : ABlk} (h : sameBlk a b = true) : a = b := by
  unfold sameBlk at h
  grind [sameLL_eq, sameEs_eq]

end Go.AM
