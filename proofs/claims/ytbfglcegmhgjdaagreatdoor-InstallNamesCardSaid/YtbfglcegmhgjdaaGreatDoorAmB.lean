/- What each operation does in the abstract machine: it reads blocks, yields a value, and gives blocks anew. No program. -/
import Derived.Test.YtbfglcegmhgjdaaGreatDoorAmA
namespace Go.AM

/-- What package-level variables hold that nobody writes: the cells of each. -/
structure GlobT where
  cells : Nat → Option (List AVal)
  /-- Numbers are not worked out, lists are not looked into: they may be variables of the proof's. -/
  lazy : Bool := false
  /-- Nobody writes what a literal of a slice holds. -/
  lits : Bool := false
/-- The variables' contents, at hand wherever they are asked for. -/
abbrev Globs := Inhabited GlobT

/-- A block of our own: not made yet; gone; rows of cells, with the version that names it; a map; the record of a loop over a function; a place for the calls that its rounds put off; an iterator over a map. -/
inductive ABlk where
  | unborn
  | dead
  | row (ver sz : Nat) (rows : List (List AVal))
  | map (clock : Nat) (es : List (AVal × AVal × Nat))
  | loop (st : LoopState) (pend : Option Code) (fid : FuncId) (A : List AVal) (ps : List Tmp) (assign body : Code)
  | defs
  | iter (m : AVal) (since : Nat) (seen : List Nat) (stepped : Nat)

/-- The version that is alive. -/
def ABlk.live : ABlk → Option Nat
  | .row ver _ _ => some ver
  | .map _ _ => some 0
  | .loop .. => some 0
  | .defs => some 0
  | .iter .. => some 0
  | _ => none

/-- Something that looks at blocks. -/
inductive Rd (α : Type) where
  | fail
  | done (a : α)
  | get (b : Nat) (k : ABlk → Rd α)

namespace Rd
variable {α β : Type}
def run (H : List ABlk) : Rd α → Option α
  | .fail => none
  | .done a => some a
  | .get b k => match H[b]? with
    | some x => (k x).run H
    | none => none
def reads (H : List ABlk) : Rd α → List Nat
  | .fail => []
  | .done _ => []
  | .get b k => b :: match H[b]? with
    | some x => (k x).reads H
    | none => []
def bind : Rd α → (α → Rd β) → Rd β
  | .fail, _ => .fail
  | .done a, f => f a
  | .get b k, f => .get b fun x => (k x).bind f
def ofOption : Option α → Rd α
  | some a => .done a
  | none => .fail
end Rd

/-- What an operation leaves: its value; the blocks that it gives anew; blocks behind the last one. -/
structure Eff where
  val : AVal
  upd : List (Nat × ABlk) := []
  news : List ABlk := []

def nothing : AVal := .sc (.tuple #[])

section
variable (P : Program)

def sizeT (T : TypeId) : Option Nat := (P.info? T).map (·.size)
def aggT (T : TypeId) : Bool := match P.underlying T with
  | some (.struct _) | some (.array _ _) => true
  | _ => false

/-- The cells of a value, if they are as many as the type's. -/
def cellsFor (T : TypeId) (v : AVal) : Option (List AVal) :=
  match v.cellsOk with
  | some cs => if sizeT P T = some cs.length then some cs else none
  | none => none

/-- A variable of type T out of a row, from a cell on. -/
def loadIn (T : TypeId) (cs : List AVal) (o : Nat) : Option AVal :=
  if aggT P T then
    match sizeT P T with
    | some n => if o + n ≤ cs.length then some (.agg ((cs.drop o).take n)) else none
    | none => none
  else if (P.underlying T).isSome then cs[o]? else none

def putAt (cs : List AVal) (o : Nat) : List AVal → List AVal
  | [] => cs
  | v :: vs => putAt (cs.set o v) (o + 1) vs

/-- Cells laid into a row, from a cell on. -/
def storeIn (cs : List AVal) (o : Nat) (vs : List AVal) : Option (List AVal) :=
  if o + vs.length ≤ cs.length then some (putAt cs o vs) else none

def zeroCellsA (T : TypeId) : Option (List AVal) :=
  match P.info? T with
  | some i => match i.zero with
    | some z => if z.cells.toList.all (·.oneCell') then some (z.cells.toList.map .sc) else none
    | none => none
  | none => none

/-- Parts laid into cells. -/
def fillA (place : Nat → Option (Nat × Nat)) (cells : List AVal) : List (Nat × AVal) → Option (List AVal)
  | [] => some cells
  | (i, v) :: rest =>
    match place i with
    | none => none
    | some (off, size) =>
      match v.cellsOk with
      | some cs => if cs.length ≠ size || off + cs.length > cells.length then none else fillA place (putAt cells off cs) rest
      | none => none

def fieldOf (T : TypeId) (f : Nat) : Option Field :=
  match P.underlying T with
  | some (.struct fs) => fs[f]?
  | _ => none

/-- Rows of 'sz' cells each. -/
def chunks (sz : Nat) : Nat → List AVal → List (List AVal)
  | 0, _ => []
  | n + 1, cs => cs.take sz :: chunks sz n (cs.drop sz)

def intOp (op : BinOp) (k : IntKind) (a b : Int) : Option AVal :=
  match op with
  | .add => some (.sc (.int k (k.wrap (a + b))))
  | .sub => some (.sc (.int k (k.wrap (a - b))))
  | .mul => some (.sc (.int k (k.wrap (a * b))))
  | .quo => if b = 0 then none else some (.sc (.int k (k.wrap (a.tdiv b))))
  | .rem => if b = 0 then none else some (.sc (.int k (a.tmod b)))
  | .and => some (.sc (.int k (k.wrap (BitVec.ofInt k.bits a &&& BitVec.ofInt k.bits b).toNat)))
  | .or => some (.sc (.int k (k.wrap (BitVec.ofInt k.bits a ||| BitVec.ofInt k.bits b).toNat)))
  | .xor => some (.sc (.int k (k.wrap (BitVec.ofInt k.bits a ^^^ BitVec.ofInt k.bits b).toNat)))
  | .andNot => some (.sc (.int k (k.wrap (BitVec.ofInt k.bits a &&& ~~~(BitVec.ofInt k.bits b)).toNat)))
  | .eql => some (.sc (.bool (a == b)))
  | .neq => some (.sc (.bool (a != b)))
  | .lss => some (.sc (.bool (decide (a < b))))
  | .leq => some (.sc (.bool (decide (a ≤ b))))
  | .gtr => some (.sc (.bool (decide (a > b))))
  | .geq => some (.sc (.bool (decide (a ≥ b))))
  | _ => none

def strOp (op : BinOp) (x y : ByteArray) : Option AVal :=
  let eq := x.toList == y.toList
  let lt := Op.bytesLess x.toList y.toList
  match op with
  | .add => if x.size + y.size ≤ 4294967296 then some (.sc (.string (x ++ y))) else none
  | .eql => some (.sc (.bool eq))
  | .neq => some (.sc (.bool !eq))
  | .lss => some (.sc (.bool lt))
  | .leq => some (.sc (.bool (lt || eq)))
  | .gtr => some (.sc (.bool !(lt || eq)))
  | .geq => some (.sc (.bool !lt))
  | _ => none

/-- The kinds of the cells of a plain type. -/
inductive Kd where
  | bool
  | int (k : IntKind)
  | str
  deriving DecidableEq

/-- '==' of two plain values, cell by cell. -/
def eqCell : Kd → AVal → AVal → Option Bool
  | .int q, .sc (.int k a), .sc (.int k' b) => if q = k ∧ k = k' then some (a == b) else none
  | .bool, .sc (.bool a), .sc (.bool b) => some (a == b)
  | .str, .sc (.string a), .sc (.string b) => some (a.toList == b.toList)
  | _, _, _ => none
def eqCells : List Kd → List AVal → List AVal → Option Bool
  | [], [], [] => some true
  | q :: qs, a :: as, b :: bs =>
    match eqCell q a b, eqCells qs as bs with
    | some x, some y => some (x && y)
    | _, _ => none
  | _, _, _ => none

/-- A type whose values are compared cell by cell: no blank field, no interface, no pointer, no float; the kinds of its cells. -/
def kindsOf (P : Program) : Nat → TypeId → Option (List Kd)
  | 0, _ => none
  | d + 1, t =>
    match P.underlying t with
    | some .bool => if sizeT P t == some 1 then some [.bool] else none
    | some (.int k) => if sizeT P t == some 1 then some [.int k] else none
    | some .string => if sizeT P t == some 1 then some [.str] else none
    | some (.struct fs) => if P.stoodInHeld t then none else
      match kindsFields P (kindsOf P d) fs.toList 0 with
      | some ks => if sizeT P t == some ks.length then some ks else none
      | none => none
    | some (.array n e) => match kindsOf P d e with
      | some ks => if sizeT P e == some ks.length && sizeT P t == some (n * ks.length) then some (List.replicate n ks).flatten else none
      | none => none
    | _ => none
where kindsFields (P : Program) (K : TypeId → Option (List Kd)) : List Field → Nat → Option (List Kd)
  | [], _ => some []
  | f :: fs, off => if f.name ≠ "_" ∧ f.offset = off then
      match K f.type with
      | some ks => if sizeT P f.type == some ks.length then (kindsFields P K fs (off + ks.length)).map (ks ++ ·) else none
      | none => none
    else none

def binA (op : BinOp) (T : TypeId) : AVal → AVal → Option AVal
  | .sc (.int k a), .sc (.int k' b) =>
    match op with
    | .shl => if b < 0 then none else some (.sc (.int k (k.wrap (a * 2 ^ (min b.toNat k.bits)))))
    | .shr => if b < 0 then none else some (.sc (.int k (a.fdiv (2 ^ (min b.toNat k.bits)))))
    | _ => if k = k' then intOp op k a b else none
  | .sc (.string x), .sc (.string y) => strOp op x y
  | .sc (.bool x), .sc (.bool y) =>
    match P.underlying T, op with
    | some .bool, .eql => some (.sc (.bool (x == y)))
    | some .bool, .neq => some (.sc (.bool (!(x == y))))
    | _, _ => none
  | .agg xs, .agg ys =>
    if P.eqGuardType P.depth T || !aggT P T then none else
    match kindsOf P 9 T with
    | some ks => match op, eqCells ks xs ys with
      | .eql, some b => some (.sc (.bool b))
      | .neq, some b => some (.sc (.bool !b))
      | _, _ => none
    | none => none
  | _, _ => none

def unA (op : UnOp) : AVal → Option AVal
  | .sc (.bool b) => match op with
    | .not => some (.sc (.bool !b))
    | _ => none
  | .sc (.int k n) => match op with
    | .neg => some (.sc (.int k (k.wrap (0 - n))))
    | .xor => intOp .xor k (if k.signed then -1 else k.max) n
    | _ => none
  | _ => none

def convA (src dst : TypeId) : AVal → Option AVal
  | .sc (.int _ n) => match P.underlying src, P.underlying dst with
    | some _, some (.int k) => some (.sc (.int k (k.wrap n)))
    | _, _ => none
  | .sc (.string s) => match P.underlying src, P.underlying dst with
    | some _, some .string => some (.sc (.string s))
    | _, _ => none
  | _ => none

/-- A row of a block of ours, at the version that is named. -/
def rowOf (b ver : Nat) : Rd (Nat × List (List AVal)) :=
  .get b fun
    | .row v sz rows => if v = ver then .done (sz, rows) else .fail
    | _ => .fail

def yields (v : Option AVal) : Rd Eff := match v with
  | some v => .done { val := v }
  | none => .fail

def loadA [gl : Globs] (T : TypeId) : AVal → Rd Eff
  | .glob i o => yields ((gl.default.cells i).bind fun cs => loadIn P T cs o)
  | .ptr b ver i o => (rowOf b ver).bind fun (_, rows) => yields ((rows[i]?).bind fun cs => loadIn P T cs o)
  | .cptr cs o => yields (loadIn P T cs o)
  | _ => .fail

def storeA (T : TypeId) (v : AVal) : AVal → Rd Eff
  | .ptr b ver i o => (rowOf b ver).bind fun (sz, rows) =>
    match rows[i]?, cellsFor P T v with
    | some cs, some vs => match storeIn cs o vs with
      | some cs' => .done { val := nothing, upd := [(b, .row ver sz (rows.set i cs'))] }
      | none => .fail
    | _, _ => .fail
  | .cptr _ _ => match cellsFor P T v with
    | some [] => .done { val := nothing }
    | _ => .fail
  | _ => .fail

/-- How many elements, and the elements, of a slice. -/
def elems : AVal → Rd (List (List AVal))
  | .emp => .done []
  | .nz _ => .done []
  | .sc (.slice none 0 0) => .done []
  | .lst rows => .done rows
  | .tls rows => .done rows
  | .sl b ver sz o n => (rowOf b ver).bind fun (sz', rows) => if sz' = sz ∧ o + n ≤ rows.length then .done ((rows.drop o).take n) else .fail
  | .sa b ver i o s n => (rowOf b ver).bind fun (_, rows) => match rows[i]? with
    | some cs => if o + n * s ≤ cs.length then .done (chunks s n ((cs.drop o).take (n * s))) else .fail
    | none => .fail
  | _ => .fail

def lenA : AVal → Option Nat
  | .emp => some 0
  | .nz _ => some 0
  | .sc (.slice none 0 0) => some 0
  | .sc (.string s) => some s.size
  | .lst rows => some rows.length
  | .tls rows => some rows.length
  | .sl _ _ _ _ n => some n
  | .sa _ _ _ _ _ n => some n
  | _ => none

def offsetA (n : Nat) : AVal → Option AVal
  | .ptr b ver i o => some (.ptr b ver i (o + n))
  | .cptr cs o => some (.cptr cs (o + n))
  | .glob i o => some (.glob i (o + n))
  | _ => none

def indexAddrA (T : TypeId) (x : AVal) (i : Int) : Option AVal :=
  match P.underlying T, x with
  | some (.slice e), .lst rows => if 0 ≤ i then (rows[i.toNat]?).bind fun r => if sizeT P e = some r.length then some (.cptr r 0) else none else none
  | some (.slice e), .sl b ver sz o n => if 0 ≤ i ∧ i < n ∧ sizeT P e = some sz then some (.ptr b ver (o + i.toNat) 0) else none
  | some (.slice e), .sa b ver j o s n => if 0 ≤ i ∧ i < n ∧ sizeT P e = some s then some (.ptr b ver j (o + i.toNat * s)) else none
  | some (.array n e), x => if 0 ≤ i ∧ i < n then (sizeT P e).bind fun s => offsetA (i.toNat * s) x else none
  | some (.slice e), .tls rows => if 0 ≤ i then (rows[i.toNat]?).bind fun r => if sizeT P e = some r.length then some (.cptr r 0) else none else none
  | _, _ => none

def indexA (T : TypeId) (x : AVal) (i : Int) : Option AVal :=
  match P.underlying T, x with
  | some (.array n e), .agg cs => if 0 ≤ i ∧ i < n then (sizeT P e).bind fun s => loadIn P e cs (i.toNat * s) else none
  | some .string, .sc (.string s) => if 0 ≤ i then (s[i.toNat]?).map fun b => .sc (.int .u8 b.toNat) else none
  | _, _ => none

def boundA (d : Nat) (m : Nat) : Option AVal → Option Nat
  | none => some d
  | some (.sc (.int _ i)) => if 0 ≤ i ∧ i ≤ m then some i.toNat else none
  | _ => none

/-- A slice of an array that a pointer shows. -/
def sliceArr [gl : Globs] (n s l h : Nat) : AVal → Option AVal
  | .ptr b ver i o => if l < h then some (.sa b ver i (o + l * s) s (h - l)) else some (.lst [])
  | .cptr cs o => if o + n * s ≤ cs.length then some (.lst (if l < h then chunks s (h - l) ((cs.drop (o + l * s)).take ((h - l) * s)) else [])) else none
  | .glob i o => (gl.default.cells i).bind fun cs => if o + n * s ≤ cs.length then some (.lst (if l < h then chunks s (h - l) ((cs.drop (o + l * s)).take ((h - l) * s)) else [])) else none
  | _ => none

def sliceA [Globs] (T : TypeId) (x : AVal) (lo hi : Option AVal) : Option AVal :=
  match P.underlying T with
  | some (.array n e) => (boundA n n hi).bind fun h => (boundA 0 h lo).bind fun l => (sizeT P e).bind fun s => sliceArr n s l h x
  | _ =>
  match lenA x with
  | none => none
  | some n =>
    (boundA n n hi).bind fun h => (boundA 0 h lo).bind fun l =>
      match P.underlying T, x with
      | some (.slice e), .sc (.slice none 0 0) => if (sizeT P e).isSome then some (.sc (.slice none 0 0)) else none
      | some (.slice e), .lst rows => if rows.all (fun r => sizeT P e == some r.length) && (sizeT P e).isSome then some (.lst ((rows.take h).drop l)) else none
      | some (.slice e), .sl b ver sz o _ => if sizeT P e = some sz then (if l = 0 then some (.sl b ver sz o h) else if l < h then some (.sl b ver sz (o + l) (h - l)) else some (.lst [])) else none
      | some (.slice e), .sa b ver i o s _ => if sizeT P e = some s then (if l < h then some (.sa b ver i (o + l * s) s (h - l)) else some (.lst [])) else none
      | some .string, .sc (.string s) => some (.sc (.string (s.extract l h)))
      | some (.slice e), .tls rows => if rows.all (fun r => sizeT P e == some r.length) && (sizeT P e).isSome then some (.lst ((rows.take h).drop l)) else none
      | _, _ => none

/-- Room that no call passes. -/
def roomy (n bytes : Nat) : Bool := decide (n * bytes ≤ 35184372088832) && decide (n ≤ 4398046511104)

/-- The zero value has the type's size. -/
def zeroFits (i : TypeInfo) : Bool := match i.zero with
  | some z => z.cells.size == i.size
  | none => false

/-- The first n. -/
def cutN {α : Type} (n : Nat) (l : List α) : List α := match Nat.beq l.length n with
  | true => l
  | false => l.take n

theorem cutN_eq {α : Type} (n : Nat) (l : List α) (_h : n ≤ l.length) : cutN n l = l.take n := by
  unfold cutN
  split
  · rename_i hb
    have := Nat.eq_of_beq_eq_true hb
    rw [← this, List.take_length]
  · rfl

def appendA (nid : Nat) (ST XT : TypeId) (s x : AVal) : Rd Eff :=
  match P.underlying ST, P.underlying XT with
  | some (.slice e), some (.slice _) =>
    match P.info? e with
    | some i => if i.size = 0 then .fail else (elems x).bind fun new =>
      match s with
      | .sc (.slice none 0 0) =>
        if new.length = 0 then .done { val := s }
        else if roomy new.length i.bytes && new.all (fun r => r.length == i.size) && zeroFits i then .done { val := .sl nid 0 i.size 0 new.length, upd := [(nid, .row 0 i.size new)] } else .fail
      | .lst _ => if new.length = 0 then .done { val := s } else .fail
      | .emp =>
        if new.length = 0 then .done { val := s }
        else if roomy new.length i.bytes && new.all (fun r => r.length == i.size) && zeroFits i then .done { val := .sl nid 0 i.size 0 new.length, upd := [(nid, .row 0 i.size new)] } else .fail
      | .sl b ver _ o n => (rowOf b ver).bind fun (sz, rows) =>
        if o = 0 ∧ n ≤ rows.length ∧ sz = i.size ∧ roomy (n + new.length) i.bytes = true ∧ new.all (fun r => r.length == i.size) = true ∧ zeroFits i = true then
          .done { val := .sl b (ver + 1) sz 0 (n + new.length), upd := [(b, .row (ver + 1) sz (cutN n rows ++ new))] }
        else .fail
      | .tls rows =>
        if new.length ≠ 0 ∧ roomy (rows.length + new.length) i.bytes = true ∧ (rows ++ new).all (fun r => r.length == i.size) = true ∧ zeroFits i = true then .done { val := .sl nid 0 i.size 0 (rows.length + new.length), upd := [(nid, .row 0 i.size (rows ++ new))] } else .fail
      | _ => .fail
    | none => .fail
  | _, _ => .fail

def copyA (DT : TypeId) (d x : AVal) : Rd Eff :=
  match P.underlying DT with
  | some (.slice e) => (elems x).bind fun new =>
    match d with
    | .sl b ver _ o n => (rowOf b ver).bind fun (sz, rows) =>
      let m := min new.length n
      if o + n ≤ rows.length ∧ sizeT P e = some sz ∧ new.all (fun r => r.length == sz) = true then
        .done { val := .sc (.int .i64 m), upd := [(b, .row ver sz (rows.take o ++ new.take m ++ rows.drop (o + m)))] }
      else .fail
    | .sa b ver i o s n => (rowOf b ver).bind fun (sz, rows) =>
      let m := min new.length n
      match rows[i]? with
      | some cs => if o + n * s ≤ cs.length ∧ sizeT P e = some s ∧ new.all (fun r => r.length == s) = true then
          .done { val := .sc (.int .i64 m), upd := [(b, .row ver sz (rows.set i (putAt cs o (new.take m).flatten)))] }
        else .fail
      | none => .fail
    | _ => .fail
  | _ => .fail

def makeSliceA (nid : Nat) (T : TypeId) : AVal → AVal → Option Eff
  | .sc (.int _ l), .sc (.int _ c) =>
    match P.underlying T with
    | some (.slice e) =>
      match P.info? e, zeroCellsA P e with
      | some i, some z => if 0 ≤ l ∧ l ≤ c ∧ roomy c.toNat i.bytes = true ∧ z.length = i.size ∧ 0 < i.size then
          some { val := .sl nid 0 i.size 0 l.toNat, upd := [(nid, .row 0 i.size (List.replicate l.toNat z))] } else none
      | _, _ => none
    | _ => none
  | _, _ => none

def buildA (T : TypeId) (parts : List (Nat × AVal)) : Option AVal :=
  match zeroCellsA P T, P.underlying T with
  | some z, some (.struct fs) => if fs.toList.all (fun f => (sizeT P f.type).isSome) then (fillA (fun i => (fs[i]?).map fun f => (f.offset, (sizeT P f.type).getD 0)) z parts).map .agg else none
  | some z, some (.array _ e) => match sizeT P e with
    | some s => (fillA (fun i => some (i * s, s)) z parts).map .agg
    | none => none
  | _, _ => none

def buildSliceA [gl : Globs] (nid : Nat) (T : TypeId) (len : Nat) (parts : List (Nat × AVal)) : Option Eff :=
  match P.underlying T with
  | some (.slice e) =>
    match sizeT P e, zeroCellsA P e with
    | some s, some z =>
      if 0 < s ∧ z.length = s ∧ len * s ≤ 16777216 then
        (fillA (fun i => some (i * s, s)) ((List.replicate len z).flatten) parts).map fun cs => if gl.default.lits && decide (0 < len) && AVal.pureL cs then { val := .tls (chunks s len cs) } else { val := .sl nid 0 s 0 len, upd := [(nid, .row 0 s (chunks s len cs))] }
      else none
    | _, _ => none
  | _ => none

def boxA (nid : Nat) (cs : List AVal) : Option Eff := if 0 < cs.length then some { val := .ptr nid 0 0 0, upd := [(nid, .row 0 cs.length [cs])] } else none

def isAggA : AVal → Bool
  | .agg _ => true
  | _ => false

/-- The first entry with a key. 'ag': the key's type is a struct's or an array's. -/
def findA (ks : List Kd) (ag : Bool) (k : AVal) : List (AVal × AVal × Nat) → Nat → Option (Option (Nat × AVal × Nat))
  | [], _ => some none
  | (k', v, born) :: es, i => if isAggA k' = ag then match eqCells ks k.cells k'.cells with
      | some true => some (some (i, v, born))
      | some false => findA ks ag k es (i + 1)
      | none => none
    else none

/-- The entries of a map. -/
def mapOf : AVal → Rd (Option (Nat × Nat × List (AVal × AVal × Nat)))
  | .sc (.map none) => .done none
  | .mp b => .get b fun
    | .map clock es => .done (some (b, clock, es))
    | _ => .fail
  | _ => .fail

def zeroA (T : TypeId) : Option AVal :=
  match P.info? T with
  | some i => i.zero.map AVal.ofValue
  | none => none

/-- A key of a plain type. -/
def keyKinds (K : TypeId) (k : AVal) : Option (List Kd) :=
  match kindsOf P 9 K with
  | some ks => if isAggA k = aggT P K then some ks else none
  | none => none

def lookupA (T : TypeId) (x k : AVal) (ok : Bool) : Rd Eff :=
  match P.underlying T with
  | some (.map K E) => match keyKinds P K k with
    | some ks => (mapOf x).bind fun m =>
      match eqCells ks k.cells k.cells, findA ks (aggT P K) k (match m with | some (_, _, es) => es | none => []) 0, zeroA P E with
      | some _, some r, some z =>
        let v := match r with | some (_, v, _) => v | none => z
        .done { val := if ok then .tup [v, .sc (.bool r.isSome)] else v }
      | _, _, _ => .fail
    | none => .fail
  | _ => .fail

def mapUpdateA (T : TypeId) (m k x : AVal) : Rd Eff :=
  match P.underlying T with
  | some (.map K _) => match keyKinds P K k with
    | some ks => (mapOf m).bind fun
      | some (b, clock, es) => match eqCells ks k.cells k.cells, findA ks (aggT P K) k es 0 with
        | some _, some (some (i, _, born)) => .done { val := nothing, upd := [(b, .map clock (es.set i (k, x, born)))] }
        | some _, some none => .done { val := nothing, upd := [(b, .map (clock + 1) (es ++ [(k, x, clock)]))] }
        | _, _ => .fail
      | none => .fail
    | none => .fail
  | _ => .fail

def optEff (x : Option Eff) : Rd Eff := match x with
  | some e => .done e
  | none => .fail

/-- An interface value held against nil. -/
def nilEqA (op : BinOp) (T : TypeId) (x : AVal) : Option AVal :=
  match P.underlying T with
  | some (.interface _) => match x, op with
    | .ifc _ _, .eql => some (.sc (.bool false))
    | .ifc _ _, .neq => some (.sc (.bool true))
    | .sc .nilIface, .eql => some (.sc (.bool true))
    | .sc .nilIface, .neq => some (.sc (.bool false))
    | _, _ => none
  | _ => none

/-- Is a slice nil? -/
def nilSl : AVal → Option Bool
  | .sc (.slice none 0 0) => some true
  | .lst (_ :: _) => some false
  | .tls _ => some false
  | .sl _ _ _ _ (_ + 1) => some false
  | .sa .. => some false
  | .nz b => some b
  | _ => none

/-- The text's nil slice. -/
def nilConst : Operand → Bool
  | .const (.slice none 0 0) => true
  | _ => false

/-- A slice held against nil. -/
def nilEqSA (op : BinOp) (T : TypeId) (x : AVal) : Option AVal :=
  match P.underlying T with
  | some (.slice _) => match op, nilSl x with
    | .eql, some b => some (.sc (.bool b))
    | .neq, some b => some (.sc (.bool !b))
    | _, _ => none
  | _ => none

def typeAssertA (T : TypeId) (ok : Bool) (x : AVal) : Option AVal :=
  match P.underlying T with
  | none => none
  | some (.interface _) => none
  | some _ => match x with
    | .ifc t v => if t = T then some (if ok then .tup [v, .sc (.bool true)] else v) else if ok then (zeroA P T).map fun z => .tup [z, .sc (.bool false)] else none
    | .sc .nilIface => if ok then (zeroA P T).map fun z => .tup [z, .sc (.bool false)] else none
    | _ => none

/-- A slice with no room: x[0:0:0]. -/
def slice3A (T : TypeId) (x : AVal) (lo hi mx : Option AVal) : Option AVal :=
  match P.underlying T with
  | some (.slice e) => match lenA x, boundA 1 0 lo, boundA 1 0 hi, boundA 1 0 mx with
    | some _, some 0, some 0, some 0 => if (sizeT P e).isSome && !(match x with | .sc (.string _) => true | _ => false) then some .emp else none
    | _, _, _, _ => none
  | _ => none

/-- A slice wiped out. -/
def clearA (T : TypeId) (x : AVal) : Rd Eff :=
  match P.underlying T, x with
  | some (.slice _), .sc (.slice none 0 0) => .done { val := nothing }
  | some (.slice _), .lst [] => .done { val := nothing }
  | some (.slice e), .sl b ver sz o n => match zeroCellsA P e with
    | some z => (rowOf b ver).bind fun (sz', rows) => if sz' = sz ∧ o + n ≤ rows.length ∧ z.length = sz then .done { val := nothing, upd := [(b, .row ver sz (rows.take o ++ List.replicate n z ++ rows.drop (o + n)))] } else .fail
    | none => .fail
  | _, _ => .fail

/-- The array at the head of a slice. -/
def arrayA (T : TypeId) (x : AVal) : Option AVal :=
  match P.underlying T with
  | some (.array n _) => match x with
    | .sa b ver i o _ m => if n ≤ m then some (.ptr b ver i o) else none
    | .lst rows => if 0 < rows.length ∧ n ≤ rows.length then some (.cptr rows.flatten 0) else none
    | _ => none
  | _ => none

/-- The bytes of a []byte. -/
def bytesA : List (List AVal) → Option (List Int)
  | [] => some []
  | [.sc (.int .u8 n)] :: rs => (bytesA rs).map (n :: ·)
  | _ => none

/-- The string of bytes. -/
def strOfBytes (xs : List Int) : ByteArray := ⟨(xs.map fun n => UInt8.ofNat n.toNat).toArray⟩

/-- From bytes to a string? -/
def bytesTo (P : Program) (s d : TypeId) : Bool := match P.underlying s, P.underlying d with
  | some (.slice e), some .string => match P.underlying e with
    | some (.int .u8) => true
    | _ => false
  | _, _ => false

/-- The least of two numbers. -/
def minA : AVal → AVal → Option AVal
  | .sc (.int k x), .sc (.int _ y) => some (.sc (.int k (if y < x then y else x)))
  | _, _ => none

/-- The beginning of a loop over a map. -/
def rangeMapA (nid : Nat) (T : TypeId) (x : AVal) : Rd Eff := match P.underlying T with
  | some (.map _ _) => (mapOf x).bind fun
    | some (b, clock, _) => .done { val := .ptr nid 0 0 0, upd := [(nid, .iter (.mp b) clock [] clock)] }
    | none => .done { val := .ptr nid 0 0 0, upd := [(nid, .iter (.sc (.map none)) 0 [] 0)] }
  | _ => .fail

/-- The entry that the iterator is at. -/
def entryIn (seen : List Nat) (es : List (AVal × AVal × Nat)) : Option AVal := match seen.getLast? with
  | some s => (es.find? fun p => p.2.2 == s).map fun p => .tup [p.1, p.2.1]
  | none => none
def entryA : AVal → Rd Eff
  | .ptr b 0 0 0 => .get b fun
    | .iter m _ seen stepped => (mapOf m).bind fun
      | some (_, clock, es) => if clock = stepped then yields (entryIn seen es) else .fail
      | none => .fail
    | _ => .fail
  | _ => .fail

/-- The entry of a key, made if it is not there; and a value stored there. -/
def mapEntryA (P : Program) (T : TypeId) (m k : AVal) : Rd Eff :=
  match P.underlying T with
  | some (.map K E) => match keyKinds P K k with
    | some ks => (mapOf m).bind fun
      | some (b, clock, es) => match eqCells ks k.cells k.cells, findA ks (aggT P K) k es 0, zeroA P E with
        | some _, some (some (i, v, born)), some _ => .done { val := .tup [v, .sc (.int .i64 born)], upd := [(b, .map clock (es.set i (k, v, born)))] }
        | some _, some none, some z => .done { val := .tup [z, .sc (.int .i64 clock)], upd := [(b, .map (clock + 1) (es ++ [(k, z, clock)]))] }
        | _, _, _ => .fail
      | none => .fail
    | none => .fail
  | _ => .fail
/-- The place of the entry of a stamp. -/
def stampIn (n : Int) : List (AVal × AVal × Nat) → Nat → Option (Nat × AVal × Nat)
  | [], _ => none
  | p :: ps, i => if (p.2.2 : Int) = n then some (i, p.1, p.2.2) else stampIn n ps (i + 1)
def entryStoreA (m s x : AVal) : Rd Eff := (mapOf m).bind fun
  | some (b, clock, es) => match s with
    | .sc (.int .i64 n) => match stampIn n es 0 with
      | some (i, k, born) => .done { val := nothing, upd := [(b, .map clock (es.set i (k, x, born)))] }
      | none => .fail
    | _ => .fail
  | none => .fail
/-- A map held against nil. -/
def mapNilConst : Operand → Bool
  | .const (.map none) => true
  | _ => false
def nilEqMA (P : Program) (op : BinOp) (T : TypeId) (x : AVal) : Option AVal :=
  match P.underlying T with
  | some (.map _ _) => match op, (match x with | .mp _ => some false | .sc (.map none) => some true | _ => none) with
    | .eql, some b => some (.sc (.bool b))
    | .neq, some b => some (.sc (.bool !b))
    | _, _ => none
  | _ => none

/-- A pointer held against nil. -/
def ptrNilConst : Operand → Bool
  | .const (.pointer none) => true
  | _ => false
def nilEqPA (P : Program) (op : BinOp) (T : TypeId) (x : AVal) : Option AVal :=
  match P.underlying T with
  | some (.pointer _) => match op, (match x with | .ptr _ _ _ _ | .cptr _ _ | .glob _ _ => some false | .sc (.pointer none) => some true | _ => none) with
    | .eql, some b => some (.sc (.bool b))
    | .neq, some b => some (.sc (.bool !b))
    | _, _ => none
  | _ => none

/-- A step of a loop over a map that leaves no choice. -/
def nextA : AVal → Rd Eff
  | .ptr b 0 0 0 => .get b fun
    | .iter (.mp mb) since seen stepped => .get mb fun
      | .map clock es => match (es.all fun p => decide (p.2.2 < since)) && decide (since ≤ stepped) with
        | true => match es.filter fun p => !seen.contains p.2.2 with
          | [] => .done { val := .tup [.sc (.bool false)] }
          | [p] => .done { val := .tup [.sc (.bool true), .junk, .junk], upd := [(b, .iter (.mp mb) since (seen ++ [p.2.2]) clock)] }
          | _ => .fail
        | false => .fail
      | _ => .fail
    | .iter (.sc (.map none)) _ _ _ => .done { val := .tup [.sc (.bool false)] }
    | _ => .fail
  | _ => .fail

/-- All operations but calls of functions. -/
def opA [Globs] (nid : Nat) (rho : Operand → AVal) : Op → Rd Eff
  | .move x => .done { val := rho x }
  | .assign x => .done { val := rho x }
  | .pick c a b => match rho c with
    | .sc (.bool t) => .done { val := if t then rho a else rho b }
    | _ => .fail
  | .alloc T => match zeroCellsA P T with
    | some [] => .done { val := .cptr [] 0 }
    | z => optEff (z.bind (boxA nid))
  | .box _ x => optEff ((rho x).cellsOk.bind (boxA nid))
  | .build T parts => yields (buildA P T (parts.toList.map fun p => (p.1, rho p.2)))
  | .buildSlice T len parts => optEff (buildSliceA P nid T len (parts.toList.map fun p => (p.1, rho p.2)))
  | .load T a => loadA P T (rho a)
  | .store T a v => storeA P T (rho v) (rho a)
  | .nilCheck x => match rho x with
    | .ptr b v i o => .done { val := .ptr b v i o }
    | .cptr cs o => .done { val := .cptr cs o }
    | .glob i o => .done { val := .glob i o }
    | .fn (.func f) a b => .done { val := .fn (.func f) a b }
    | _ => .fail
  | .binOp op T x (.const .nilIface) _ => yields (nilEqA P op T (rho x))
  | .typeAssert x _ T ok => yields (typeAssertA P T ok (rho x))
  | .binOp op T x y _ => if ptrNilConst y then yields (nilEqPA P op T (rho x)) else if mapNilConst y then yields (nilEqMA P op T (rho x)) else if nilConst y then yields (nilEqSA P op T (rho x)) else yields (binA P op T (rho x) (rho y))
  | .unOp op _ x => yields (unA op (rho x))
  | .convert s d x => match bytesTo P s d with
    | true => (elems (rho x)).bind fun rows => match bytesA rows with
      | some xs => .done { val := .sc (.string (strOfBytes xs)) }
      | none => .fail
    | false => yields (convA P s d (rho x))
  | .makeInterface T x => match P.underlying T with
    | some (.interface _) => .fail
    | some _ => .done { val := .ifc T (rho x) }
    | none => .fail
  | .makeFunc f a b => .done { val := .fn f (a.toList.map rho) (b.toList.map rho) }
  | .makeMap T none => match P.underlying T with
    | some (.map _ _) => .done { val := .mp nid, upd := [(nid, .map 0 [])] }
    | _ => .fail
  | .makeMap T (some h) => match P.underlying T, rho h with
    | some (.map _ _), .sc (.int _ _) => .done { val := .mp nid, upd := [(nid, .map 0 [])] }
    | _, _ => .fail
  | .lookup T x k ok => lookupA P T (rho x) (rho k) ok
  | .range T x => rangeMapA P nid T (rho x)
  | .entry x => entryA (rho x)
  | .next it false => nextA (rho it)
  | .mapEntry T m k => mapEntryA P T (rho m) (rho k)
  | .entryStore _ m st x => entryStoreA (rho m) (rho st) (rho x)
  | .mapUpdate T m k x => mapUpdateA P T (rho m) (rho k) (rho x)
  | .insert T m k x => mapUpdateA P T (rho m) (rho k) (rho x)
  | .makeSlice T l c => optEff (makeSliceA P nid T (rho l) (rho c))
  | .slice T x lo hi none => yields (sliceA P T (rho x) (lo.map rho) (hi.map rho))
  | .slice T x lo hi (some mx) => yields (slice3A P T (rho x) (lo.map rho) (hi.map rho) (some (rho mx)))
  | .sliceToArrayPointer T x => yields (arrayA P T (rho x))
  | .fieldAddr T x f => match fieldOf P T f with
    | some fd => match sizeT P fd.type with
      | some (_ + 1) => yields (offsetA fd.offset (rho x))
      | _ => .fail
    | none => .fail
  | .field T x f => match fieldOf P T f, rho x with
    | some fd, .agg cs => yields (loadIn P fd.type cs fd.offset)
    | _, _ => .fail
  | .indexAddr T x i => match rho i with
    | .sc (.int _ n) => yields (indexAddrA P T (rho x) n)
    | _ => .fail
  | .index T x i => match rho i with
    | .sc (.int _ n) => yields (indexA P T (rho x) n)
    | _ => .fail
  | .extract t i => match rho t with
    | .tup cs => yields (cs[i]?)
    | _ => .fail
  | .call { callee := .builtin .len, args, argTypes } => match argTypes[0]?, args[0]? with
    | some T, some x => match P.underlying T, lenA (rho x) with
      | some (.map _ _), _ => (mapOf (rho x)).bind fun m => .done { val := .sc (.int .i64 (match m with | some (_, _, es) => (es.length : Int) | none => 0)) }
      | some .string, some n => if (match rho x with | .sc (.string _) => true | _ => false) then .done { val := .sc (.int .i64 n) } else .fail
      | some (.slice _), some n => if (match rho x with | .sc (.string _) => false | _ => true) then .done { val := .sc (.int .i64 n) } else .fail
      | _, _ => .fail
    | _, _ => .fail
  | .call { callee := .builtin .append, args, argTypes } => match argTypes[0]?, argTypes[1]?, args[0]?, args[1]? with
    | some ST, some XT, some s, some x => if args.size = 2 then appendA P nid ST XT (rho s) (rho x) else .fail
    | _, _, _, _ => .fail
  | .call { callee := .builtin .copy, args, argTypes } => match argTypes[0]?, args[0]?, args[1]? with
    | some DT, some d, some x => copyA P DT (rho d) (rho x)
    | _, _, _ => .fail
  | .call { callee := .builtin .clear, args, argTypes } => match argTypes[0]?, args[0]? with
    | some T, some x => if args.size = 1 then clearA P T (rho x) else .fail
    | _, _ => .fail
  | .call { callee := .builtin .min, args, .. } => match args[0]?, args[1]? with
    | some x, some y => if args.size = 2 then yields (minA (rho x) (rho y)) else .fail
    | _, _ => .fail
  | _ => .fail
end

end Go.AM
