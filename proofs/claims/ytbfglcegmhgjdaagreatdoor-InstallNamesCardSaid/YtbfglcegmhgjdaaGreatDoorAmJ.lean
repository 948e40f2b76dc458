/- The abstract machine: calls, regions, code. No program. -/
import Derived.Test.YtbfglcegmhgjdaaGreatDoorAmP
import Derived.CheckFast
import Derived.OrdersIn
import Derived.Lib.BytesEntry
import Derived.Laws.Externs
namespace Go.AM

namespace AVal
mutual
/-- No memory at all is named. -/
def flat : AVal → Bool
  | .sc _ => true
  | .agg cs => flatL cs
  | .tup cs => flatL cs
  | .fn _ a b => flatL a && flatL b
  | .ifc _ v => flat v
  | .glob _ _ => true
  | .emp => true
  | .nz _ => true
  | .junk => true
  | _ => false
def flatL : List AVal → Bool
  | [] => true
  | a :: as => flat a && flatL as
end

mutual
/-- The blocks that are named. -/
def refs : AVal → List Nat
  | .agg cs => refsL cs
  | .tup cs => refsL cs
  | .ptr b .. => [b]
  | .sl b .. => [b]
  | .fn _ a b => refsL a ++ refsL b
  | .ifc _ v => refs v
  | .mp b => [b]
  | .yld b => [b]
  | .sa b .. => [b]
  | _ => []
def refsL : List AVal → List Nat
  | [] => []
  | a :: as => refs a ++ refsL as
end
end AVal

def mapRd (f : AVal → Rd AVal) : List AVal → Rd (List AVal)
  | [] => .done []
  | a :: as => (f a).bind fun x => (mapRd f as).bind fun xs => .done (x :: xs)

def mapRows (f : AVal → Rd AVal) : List (List AVal) → Rd (List (List AVal))
  | [] => .done []
  | r :: rs => (mapRd f r).bind fun x => (mapRows f rs).bind fun xs => .done (x :: xs)

/-- A value by its content: our own memory as it is now. -/
def snap : Nat → AVal → Rd AVal
  | 0, _ => .fail
  | n + 1, v => if v.pure then .done v else
    match v with
    | .ptr b ver i o => (rowOf b ver).bind fun x => match x.2[i]? with
      | some r => (mapRd (snap n) r).bind fun r' => .done (.cptr r' o)
      | none => .fail
    | .sl b ver sz o m => (rowOf b ver).bind fun x =>
      if x.1 = sz ∧ o + m ≤ x.2.length then
        let rows := (x.2.drop o).take m
        if rows.all AVal.pureL then .done (.lst rows) else (mapRows (snap n) rows).bind fun rows' => .done (.lst rows')
      else .fail
    | .sa b ver i o s m => (rowOf b ver).bind fun x => match x.2[i]? with
      | some cs => if o + m * s ≤ cs.length then (mapRd (snap n) ((cs.drop o).take (m * s))).bind fun cs' => .done (.lst (chunks s m cs')) else .fail
      | none => .fail
    | .agg cs => (mapRd (snap n) cs).bind fun cs' => .done (.agg cs')
    | .tup cs => (mapRd (snap n) cs).bind fun cs' => .done (.tup cs')
    | .fn f p q => (mapRd (snap n) p).bind fun p' => (mapRd (snap n) q).bind fun q' => .done (.fn f p' q')
    | .ifc t u => (snap n u).bind fun u' => .done (.ifc t u')
    | _ => .fail

def snapFuel : Nat := 9

/-- The blocks that can be come to. -/
def closure : Nat → List Nat → List Nat → Rd (List Nat)
  | _, [], seen => .done seen
  | 0, _ :: _, _ => .fail
  | n + 1, b :: todo, seen => if seen.contains b then closure n todo seen else
    .get b fun
      | .row _ _ rows => closure n ((if rows.all AVal.pureL then [] else AVal.refsL rows.flatten) ++ todo) (b :: seen)
      | .loop _ _ _ A _ _ _ => closure n (AVal.refsL A ++ todo) (b :: seen)
      | .iter m _ _ _ => closure n (AVal.refs m ++ todo) (b :: seen)
      | .map _ es => closure n ((if es.all (fun p => p.2.1.pure) then [] else AVal.refsL (es.map fun p => p.2.1)) ++ todo) (b :: seen)
      | _ => closure n todo (b :: seen)

structure Cfg where
  /-- Functions that are called by content, in memory of their own. -/
  val : FuncId → Bool
  /-- Slots that are forgotten at the head of the loop in a block. -/
  kill : FuncId → Nat → List Nat
  /-- Functions whose results nobody writes: their memory is kept by content. -/
  fz : FuncId → Bool := fun _ => false

inductive ARes where
  | ret (v : AVal)
  | pan (v : AVal)

/-- Calls of functions; rounds of the loop in a block. -/
structure Orc where
  fn : FuncId → List AVal → List ABlk → Option (ARes × List ABlk)
  rnd : Nat → List AVal → List ABlk → Option (ARes × List ABlk)

/-- What a function is to do when it leaves: a call; the calls that a loop's rounds have put off (none). -/
inductive DefA where
  | call (f : FuncId) (args : List AVal)
  | mark (b : Nat)

structure St where
  A : List AVal
  H : List ABlk
  D : List DefA

def evalA (A : List AVal) : Operand → AVal
  | .tmp t => A.getD t nothing
  | .const v => AVal.ofValue v
  | .global g => .glob g 0
  | .func f => .fn (.func f) [] []

def putA (A : List AVal) (d : Option Tmp) (v : AVal) : List AVal := match d with
  | some d => A.set d v
  | none => A

/-- An operation as far as it goes without calling. -/
inductive Pre where
  | eff (e : Eff)
  | byVal (f : FuncId) (args : List AVal) (own : Bool)
  | byRef (f : FuncId) (args : List AVal) (ids : List Nat)
  | byFz (f : FuncId) (args : List AVal) (ids : List Nat)
  | round (b : Nat) (args : List AVal) (ids : List Nat)
  | defer (f : FuncId) (args : List AVal)
  | pan (v : AVal)

def callee (rho : Operand → AVal) : Callee → Option (FuncId × List AVal × List AVal)
  | .value f => match rho f with
    | .fn (.func n) p q => some (n, p, q)
    | _ => none
  | _ => none

def callPre (cfg : Cfg) (f : FuncId) (args : List AVal) : Rd Pre :=
  if cfg.val f && (AVal.pureL args || !cfg.fz f) then (mapRd (snap snapFuel) args).bind fun args' => .done (.byVal f args' (AVal.pureL args))
  else (closure 1000 (AVal.refsL args) []).bind fun ids => .done (if cfg.fz f then .byFz f args ids else .byRef f args ids)

/-- internal/bytealg.Compare, which has no body. -/
def isCompare (fn : Func) : Bool := fn.name == "internal/bytealg.Compare" && (fn.origin == "" || fn.origin == "internal/bytealg.Compare")

/-- A function without a body. -/
def extA (fn : Func) (args : List AVal) : Rd Pre :=
  if isCompare fn then match args with
    | [x, y] => (elems x).bind fun a => (elems y).bind fun b => match bytesA a, bytesA b with
      | some xs, some ys => .done (.eff { val := .sc (.int .i64 (Lib.compareBytes (Lib.bytesOf xs) (Lib.bytesOf ys))) })
      | _, _ => .fail
    | _ => .fail
  else .fail

def allocs : Op → Bool
  | .alloc _ | .box .. | .buildSlice .. | .makeSlice .. | .makeMap .. | .range .. => true
  | .call { callee := .builtin .append, .. } => true
  | _ => false

def opPre [Globs] (P : Program) (cfg : Cfg) (nid : Nat) (rho : Operand → AVal) (op : Op) : Rd Pre :=
  match op with
  | .call { callee := .value f, args := args, .. } => match rho f with
    | .fn (.func n) p q => match P.funcs[n]? with
      | some fn => if fn.body.isNone then extA fn (p ++ args.toList.map rho ++ q) else callPre cfg n (p ++ args.toList.map rho ++ q)
      | none => .fail
    | .yld b => (closure 1000 (b :: AVal.refsL (args.toList.map rho)) []).bind fun ids => .done (.round b (args.toList.map rho) ids)
    | _ => .fail
  | .defer { callee := .value f, args := args, .. } => match callee rho (.value f) with
    | some (n, p, q) => .done (.defer n (p ++ args.toList.map rho ++ q))
    | none => .fail
  | .panic x => match rho x with
    | .ifc t v => if v.flat then .done (.pan (.ifc t v)) else .fail
    | _ => .fail
  | op => if allocs op then .get nid fun
      | .unborn => (opA P nid rho op).bind fun e => .done (.eff e)
      | _ => .fail
    else (opA P nid rho op).bind fun e => .done (.eff e)

def mask (ids : List Nat) (H : List ABlk) : List ABlk := H.mapIdx fun i x => if ids.contains i then x else .dead

def blkLt (n : Nat) : ABlk → Bool
  | .row _ _ rows => rows.all fun r => AVal.refsLtL n r
  | .map _ es => es.all fun p => p.1.refsLt n && p.2.1.refsLt n
  | .loop _ _ _ A _ _ _ => AVal.refsLtL n A
  | .iter m _ _ _ => m.refsLt n
  | _ => true

inductive Fin where
  | ok (e : Eff)
  | pan (v : AVal) (ids : List Nat)
  | defer (f : FuncId) (args : List AVal)

/-- The end of a call by reference. -/
def mergeFin (H : List ABlk) (ids : List Nat) : Option (ARes × List ABlk) → Option Fin
  | some (.ret v, H1) =>
    if H.length ≤ H1.length then
      let upd := ids.map fun i => (i, H1.getD i .dead)
      let n := H.length
      if v.refsLt n && upd.all (fun p => blkLt n p.2) then some (.ok { val := v, upd := upd })
      else some (.ok { val := v, upd := upd, news := H1.drop n })
    else none
  | some (.pan v, _) => if v.flat then some (.pan v ids) else none
  | none => none

/-- The blocks from n on. -/
def newOnly (n : Nat) (H : List ABlk) : List ABlk := List.replicate n .dead ++ H.drop n

/-- The same, where what comes back is kept by its content. -/
def fzFin (H : List ABlk) (ids : List Nat) : Option (ARes × List ABlk) → Option Fin
  | some (.ret v, H1) =>
    if H.length ≤ H1.length then
      if ids.all (fun i => blkLt H.length (H1.getD i .dead)) then match (snap snapFuel v).run (newOnly H.length H1) with
        | some v' => some (.ok { val := v', upd := (ids.filter fun i => !sameBlk (H.getD i .dead) (H1.getD i .dead)).map fun i => (i, H1.getD i .dead) })
        | none => none
      else none
    else none
  | r => mergeFin H ids r

def finish [Globs] (orc : Orc) (H : List ABlk) : Pre → Option Fin
  | .eff e => some (.ok e)
  | .defer f args => some (.defer f args)
  | .pan v => some (.pan v [])
  | .byVal f args own => avsF args fun args => match orc.fn f args [] with
    | some (.ret v, H1) => match (snap snapFuel v).run H1 with
      | some v' => if own || v'.flat then some (.ok { val := v' }) else none
      | none => none
    | some (.pan v, _) => if v.flat then some (.pan v []) else none
    | none => none
  | .byRef f args ids => avsF args fun args => headsF (mask ids H) fun H0 => mergeFin H ids (orc.fn f args H0)
  | .byFz f args ids => avsF args fun args => headsF (mask ids H) fun H0 => fzFin H ids (orc.fn f args H0)
  | .round b args ids => avsF args fun args => headsF (mask ids H) fun H0 => mergeFin H ids (orc.rnd b args H0)

/-- Is the operation carried out? -/
def wantedA (ops : Array Oper) (A : List AVal) (o : Oper) : Option Bool :=
  match o.guard with
  | none => some true
  | some (j, want) => match (ops[j]?).bind (·.dst) with
    | none => some false
    | some d => match A[d]? with
      | some (.sc (.bool b)) => some (b == want)
      | some .junk => none
      | _ => some false

inductive OpRes where
  | ok (s : St)
  | pan (v : AVal) (s : St)

/-- What one operation reads and writes: blocks by number below n0; n0 stands for whatever lies behind. -/
structure Foot where
  reads : List Nat
  writes : List Nat

def cut (n0 b : Nat) : Nat := if b < n0 then b else n0

def byRefs : Pre → Bool
  | .byRef .. => true
  | .byFz .. => true
  | .round .. => true
  | _ => false

def footOf (n0 : Nat) (reads : List Nat) (p : Pre) (upd : List Nat) (news : Bool) : Foot :=
  let w := upd.map (cut n0) ++ (if news then [n0] else [])
  ⟨reads.map (cut n0) ++ (if byRefs p then [n0] else []) ++ w, w⟩

def putF {α : Type} (A : List AVal) (d : Option Tmp) (v : AVal) (k : List AVal → α) : α := match d with
  | some d => setF A d v k
  | none => k A

/-- An operation as it ends, and its footprint. -/
def stepOp [Globs] (P : Program) (cfg : Cfg) (orc : Orc) (ops : Array Oper) (n0 : Nat) (o : Oper) (nid : Nat) (s : St) : Option (OpRes × Foot) :=
  match wantedA ops s.A o with
  | none => none
  | some false => putF s.A o.dst nothing fun A => some (.ok { s with A := A }, ⟨[], []⟩)
  | some true => let rd := opPre P cfg nid (evalA s.A) o.op
    match rd.run s.H with
    | none => none
    | some pre => match finish orc s.H pre with
      | none => none
      | some (.pan v ids) => some (.pan v { s with H := ids.foldl (fun H i => H.set i .dead) s.H }, footOf n0 (rd.reads s.H) pre ids false)
      | some (.ok e) => effF e fun e => putF s.A o.dst e.val fun A => applyF e s.H fun H =>
        some (.ok { s with A := A, H := H }, footOf n0 (rd.reads s.H) pre (e.upd.map (·.1)) (!e.news.isEmpty))
      | some (.defer f args) => putF s.A o.dst nothing fun A => avsF args fun args => some (.ok { s with A := A, D := .call f args :: s.D }, ⟨[], []⟩)

/-- The operations with the blocks that they are to make. -/
def numbered : Nat → List Oper → List (Oper × Nat)
  | _, [] => []
  | n, o :: os => natF n fun n => (o, n) :: numbered (if allocs o.op then n + 1 else n) os

def countAllocs (ops : List Oper) : Nat := (ops.filter fun o => allocs o.op).length

/-- All of them, in the order of the list; each one asks callees of its own. -/
def runOps [Globs] (P : Program) (cfg : Cfg) (orc : Nat → Orc) (ops : Array Oper) (n0 : Nat) : Nat → List (Oper × Nat) → St → Option (OpRes × List Foot)
  | _, [], s => some (.ok s, [])
  | k, (o, nid) :: rest, s => match stepOp P cfg (orc k) ops n0 o nid s with
    | some (.ok s', f) => match runOps P cfg orc ops n0 (k + 1) rest s' with
      | some (r, fs) => some (r, f :: fs)
      | none => none
    | some (.pan v s', f) => some (.pan v s', [f])
    | none => none

def Foot.apart (x y : Foot) : Bool :=
  x.writes.all (fun b => !y.reads.contains b && !y.writes.contains b) && y.writes.all (fun b => !x.reads.contains b)

/-- Operations whose order is open touch nothing in common. 'bef': which come before which. -/
def indep (ops : Array Oper) (bef : Array Nat) (feet : List Foot) : Bool :=
  feet.zipIdx.all fun (y, j) => feet.zipIdx.all fun (x, i) => !(decide (i < j)) || (bef.getD j 0).testBit i ||
    (x.apart y && match ops[i]?, ops[j]? with | some oi, some oj => Oper.apart ops oi oj | _, _ => false)

/-- The ground edges point backwards; nothing is put off. -/
def drawable (ops : Array Oper) : Bool := ops.toList.zipIdx.all fun (o, j) =>
  (match o.op with | .defer _ => false | .select .. => false | _ => true) && o.after.toList.all fun e => !Region.binds .any e || decide (e.on < j)

/-- How many blocks at the end have not been made. -/
def tailFree : List ABlk → Nat
  | [] => 0
  | .unborn :: bs => if tailFree bs = bs.length then tailFree bs + 1 else tailFree bs
  | _ :: bs => tailFree bs

def regionI [Globs] (P : Program) (cfg : Cfg) (orc : Nat → Orc) (ops : Array Oper) (draw : Bool) (s : St) : Option OpRes :=
  natF (countAllocs ops.toList) fun c => natF (if c = 0 then 0 else tailFree s.H) fun t => natF (c - t) fun m =>
  newsF s.H (List.replicate m .unborn) fun H0 =>
  let s0 : St := { s with H := H0 }
  natF H0.length fun n0 => match runOps P cfg orc ops n0 0 (numbered (s.H.length - t) ops.toList) s0 with
  | none => none
  | some (r, feet) => if !draw then some r else
    if drawable ops && feet.length == ops.size && indep ops (CheckFast.beforeF ops) feet then
      match r with
      | .ok s' => some (.ok s')
      | .pan v s' => if feet.all (fun f => f.writes.isEmpty) then some (.pan v { s' with A := ops.toList.foldl (fun A o => putA A o.dst .junk) s'.A }) else none
    else none

def region [Globs] (P : Program) (cfg : Cfg) (orc : Orc) (ops : Array Oper) (draw : Bool) (s : St) : Option OpRes := regionI P cfg (fun _ => orc) ops draw s

inductive AOut where
  | normal
  | exit (id : Nat)
  | ret
  | pan (v : AVal)

def iter {S : Type} (f : S → Option (AOut × S)) : Nat → S → Option (AOut × S)
  | 0, _ => none
  | n + 1, s => match f s with
    | some (.normal, s') => iter f n s'
    | r => r

def forget (l : List Nat) (A : List AVal) : List AVal := l.foldl (fun A t => A.set t .junk) A

/-- The record of a loop over a function: its block, the heap, what is to be done at the function's end. In a round of another loop there is no place of its own for the calls that are put off. -/
def enterA (ro : Option Nat) (fid : FuncId) (ps : Array Tmp) (assign body : Code) (s : St) : Option (Nat × List ABlk × List DefA) :=
  match ro with
  | none => some (s.H.length + 1, s.H ++ [.defs, .loop .ready none fid s.A ps.toList assign body], .mark s.H.length :: s.D)
  | some b => match s.H[b]? with
    | some (.loop ..) => some (s.H.length, s.H ++ [.loop .ready none fid s.A ps.toList assign body], s.D)
    | _ => none

/-- Behind a loop over a function: the jump that a round has left. -/
def endA (l : Nat) (D : List DefA) (s : St) (H : List ABlk) : Option (AOut × St) :=
  match H[l]? with
  | some (.loop st pend fid A ps assign body) =>
    if st = .busy then none else
    let s2 : St := { s with H := H.set l (.loop .exhausted pend fid A ps assign body), D := D }
    match pend with
    | none => some (.normal, s2)
    | some .ret => some (.ret, s2)
    | some (.exit id) => some (.exit id, s2)
    | _ => none
  | _ => none

def rangeA [Globs] (orc : Orc) (ro : Option Nat) (fid : FuncId) (f : AVal) (ps : Array Tmp) (assign body : Code) (s : St) : Option (AOut × St) :=
  match f with
  | .fn (.func g) p q => match enterA ro fid ps assign body s with
    | some (l, H1, D1) => spineF H1 fun H1 => match (closure 1000 (AVal.refsL (p ++ [.yld l] ++ q)) []).run H1 with
      | some ids => match finish orc H1 (.byRef g (p ++ [.yld l] ++ q) ids) with
        | some (.ok e) => effF e fun e => applyF e H1 fun H2 => endA l D1 s H2
        | some (.pan v ids) => some (.pan v, { s with H := ids.foldl (fun H i => H.set i .dead) H1, D := D1 })
        | _ => none
      | none => none
    | none => none
  | _ => none

def putsOff (o : Oper) : Bool := match o.op with
  | .defer _ => true
  | _ => false

/-- A statement. 'ro': the loop in whose round we are; 'cur': the block that it stands in; 'n': how often a loop may go round. -/
def exec [Globs] (P : Program) (cfg : Cfg) (orc : Orc) (ro : Option Nat) (fid : FuncId) (n : Nat) : Nat → Code → St → Option (AOut × St)
  | _, .skip, s => some (.normal, s)
  | _, .region _ ops draw, s => if ro.isSome && ops.toList.any putsOff then none else match region P cfg orc ops draw s with
    | some (.ok s') => some (.normal, s')
    | some (.pan v s') => some (.pan v, s')
    | none => none
  | _, .rangeFunc f ps assign body, s => rangeA orc ro fid (evalA s.A f) ps assign body s
  | cur, .seq a b, s => match exec P cfg orc ro fid n cur a s with
    | some (.normal, s') => exec P cfg orc ro fid n cur b s'
    | r => r
  | cur, .cond c a b, s => match evalA s.A c with
    | .sc (.bool true) => exec P cfg orc ro fid n cur a s
    | .sc (.bool false) => exec P cfg orc ro fid n cur b s
    | _ => none
  | _, .block id b, s => match exec P cfg orc ro fid n id b s with
    | some (.exit id', s') => if id' = id then some (.normal, s') else some (.exit id', s')
    | r => r
  | cur, .loop b, s => iter (fun s => exec P cfg orc ro fid n cur b { s with A := forget (cfg.kill fid cur) s.A }) n s
  | _, .exit id, s => some (.exit id, s)
  | _, .ret, s => some (.ret, s)
  | cur, .scope b, s => exec P cfg orc ro fid n cur b s
  | _, .label _, s => some (.normal, s)
  | _, _, _ => none

/-- The results of a function. -/
def resultA [Globs] (P : Program) (A : List AVal) (H : List ABlk) : ResultVar → Option AVal
  | .tmp t => some (A.getD t nothing)
  | .cell t T => match (loadA P T (A.getD t nothing)).run H with
    | some e => some e.val
    | none => none

def resultsA [Globs] (P : Program) (A : List AVal) (H : List ABlk) : List ResultVar → Option (List AVal)
  | [] => some []
  | r :: rs => match resultA P A H r, resultsA P A H rs with
    | some v, some vs => some (v :: vs)
    | _, _ => none

def resultOf : List AVal → AVal
  | [v] => v
  | vs => .tup vs

/-- The frame that a call begins with. -/
def frameA (ntmps : Nat) (args : List AVal) : List AVal := spineF (args ++ List.replicate (ntmps - args.length) nothing) fun A => A

/-- A body that begins with recover(): its place, and the rest. -/
def splitRecover : Code → Option (Option Tmp × Code)
  | .region _ ops false => match ops.toList with
    | [o] => match o.op, o.guard with
      | .call { callee := .builtin .recover, .. }, none => some (o.dst, .skip)
      | _, _ => none
    | _ => none
  | .seq a b => match splitRecover a with
    | some (d, a') => some (d, .seq a' b)
    | none => none
  | _ => none

/-- A deferred call while the function panics with m, or not: has it recovered? -/
def deferred [Globs] (P : Program) (cfg : Cfg) (orc : Orc) (n : Nat) (f : FuncId) (args : List AVal) (m : Option AVal) (H : List ABlk) : Option (Bool × List ABlk) :=
  match P.funcs[f]? with
  | some fn => match fn.body with
    | some c => match splitRecover c with
      | some (d, rest) => match exec P cfg orc none f n 0 rest ⟨putA (frameA fn.ntmps args) d (m.getD (.sc .nilIface)), H, []⟩ with
        | some (.normal, s) | some (.ret, s) => if s.D.isEmpty && fn.results.isEmpty then some (m.isSome, s.H) else none
        | _ => none
      | none => none
    | none => none
  | none => none

def leave [Globs] (P : Program) (cfg : Cfg) (orc : Orc) (n : Nat) : List DefA → Option AVal → List ABlk → Option (Option AVal × List ABlk)
  | [], m, H => some (m, H)
  | .call f args :: ds, m, H => match deferred P cfg orc n f args m H with
    | some (b, H') => leave P cfg orc n ds (if b then none else m) H'
    | none => none
  | .mark b :: ds, m, H => match H[b]? with
    | some .defs => leave P cfg orc n ds m (H.set b .dead)
    | _ => none

def ending [Globs] (P : Program) (fn : Func) (A : List AVal) : Option AVal → List ABlk → Option (ARes × List ABlk)
  | some v, H => some (.pan v, H)
  | none, H => match resultsA P A H fn.results.toList with
    | some vs => some (.ret (resultOf vs), H)
    | none => none

/-- The body of a function, over any callees. -/
def bodyOf [Globs] (P : Program) (cfg : Cfg) (orc : Orc) (n : Nat) (f : FuncId) (args : List AVal) (H : List ABlk) : Option (ARes × List ABlk) :=
  match P.funcs[f]? with
    | some fn => match fn.body with
      | some c => match exec P cfg orc none f n 0 c ⟨frameA fn.ntmps args, H, []⟩ with
        | some (.normal, s) | some (.ret, s) => match leave P cfg orc n s.D none s.H with
          | some (m, H') => ending P fn s.A m H'
          | none => none
        | some (.pan v, s) => match leave P cfg orc n s.D (some v) s.H with
          | some (m, H') => ending P fn s.A m H'
          | none => none
        | _ => none
      | none => none
    | none => none

def jumpOf : AOut → Option (Option Code)
  | .normal => some none
  | .ret => some (some .ret)
  | .exit id => some (some (.exit id))
  | .pan _ => none

def setAll : List AVal → List Tmp → List AVal → List AVal
  | A, t :: ts, a :: as => setF A t a fun A => setAll A ts as
  | A, _, _ => A

/-- The record of a loop: in which state, with which jump. -/
def marked (b : Nat) (st : LoopState) (pend : Option Code) (H : List ABlk) : Option (List ABlk) :=
  match H[b]? with
  | some (.loop _ _ fid A ps assign body) => some (H.set b (.loop st pend fid A ps assign body))
  | _ => none

/-- A round of the loop in block b. -/
def roundOf [Globs] (P : Program) (cfg : Cfg) (orc : Orc) (n : Nat) (b : Nat) (args : List AVal) (H : List ABlk) : Option (ARes × List ABlk) :=
  match H[b]? with
  | some (.loop _ _ fid A ps assign body) =>
    if ps.length = args.length then
      match exec P cfg orc (some b) fid n 0 assign ⟨setAll A ps args, H, []⟩ with
      | some (.normal, s1) => match s1.H[b]? with
        | some (.loop .ready pend1 fid1 A1 ps1 as1 bd1) =>
          spineF (s1.H.set b (.loop .busy pend1 fid1 A1 ps1 as1 bd1)) fun H1 =>
          match exec P cfg orc (some b) fid n 0 body { s1 with H := H1 } with
          | some (out, s2) => match jumpOf out with
            | some j => match marked b (if j.isNone then .ready else .done) j s2.H with
              | some H2 => some (.ret (.sc (.bool j.isNone)), H2)
              | none => none
            | none => none
          | none => none
        | _ => none
      | _ => none
    else none
  | _ => none

/-- Calls and rounds, to a depth. -/
def call [Globs] (P : Program) (cfg : Cfg) : Nat → Orc
  | 0 => ⟨fun _ _ _ => none, fun _ _ _ => none⟩
  | n + 1 => ⟨bodyOf P cfg (call P cfg n) n, roundOf P cfg (call P cfg n) n⟩

end Go.AM
