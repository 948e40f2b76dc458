/- One operation of the machine does what the abstract machine's does, calls and all. No program. -/
import Derived.Test.YtbfglcegmhgjdaaGreatDoorAmL
import Derived.Test.YtbfglcegmhgjdaaGreatDoorAmN
namespace Go.AM

set_option linter.unusedSectionVars false
theorem eff_some [Globs] {H : List ABlk} {m : Rd Eff} {pre : Pre} (h : (m.bind fun e => .done (.eff e)).run H = some pre) : ∃ e, pre = .eff e ∧ m.run H = some e := by
  obtain ⟨e, h1, h2⟩ := bind_some h
  grind [Rd.run]

section
set_option linter.unusedSectionVars false
variable [Globs] {P : Program} {cfg : Cfg} {H : List ABlk} {nid : Nat} {rho : Operand → AVal} {op : Op} {pre : Pre}

theorem plain_some (h : (if allocs op = true then Rd.get nid fun
      | .unborn => (opA P nid rho op).bind fun e => .done (.eff e)
      | _ => .fail
    else (opA P nid rho op).bind fun e => .done (.eff e)).run H = some pre) :
    ∃ e, pre = .eff e ∧ (opA P nid rho op).run H = some e ∧ (allocs op = true → H[nid]? = some .unborn) := by
  grind [Rd.run, eff_some]

theorem opPre_cases (h : (opPre P cfg nid rho op).run H = some pre) :
    (∃ e, pre = .eff e ∧ (opA P nid rho op).run H = some e ∧ (allocs op = true → H[nid]? = some .unborn)) ∨
    (∃ f args tys n p q, op = .call { callee := .value f, args := args, argTypes := tys } ∧ rho f = .fn (.func n) p q ∧ (callPre cfg n (p ++ args.toList.map rho ++ q)).run H = some pre ∧ opPre P cfg nid rho op = callPre cfg n (p ++ args.toList.map rho ++ q)) ∨
    (∃ f args tys n p q, op = .defer { callee := .value f, args := args, argTypes := tys } ∧ rho f = .fn (.func n) p q ∧ pre = .defer n (p ++ args.toList.map rho ++ q)) ∨
    (∃ x t v, op = .panic x ∧ rho x = .ifc t v ∧ v.flat = true ∧ pre = .pan (.ifc t v)) ∨
    (∃ f args tys b ids, op = .call { callee := .value f, args := args, argTypes := tys } ∧ rho f = .yld b ∧ pre = .round b (args.toList.map rho) ids) ∨
    (∃ f args tys n p q fn, op = .call { callee := .value f, args := args, argTypes := tys } ∧ rho f = .fn (.func n) p q ∧ P.funcs[n]? = some fn ∧ fn.body.isNone = true ∧ (extA fn (p ++ args.toList.map rho ++ q)).run H = some pre) := by
  have other : (opPre P cfg nid rho op = if allocs op = true then Rd.get nid fun
      | .unborn => (opA P nid rho op).bind fun e => .done (.eff e)
      | _ => .fail
    else (opA P nid rho op).bind fun e => .done (.eff e)) → (∃ e, pre = .eff e ∧ (opA P nid rho op).run H = some e ∧ (allocs op = true → H[nid]? = some .unborn)) := by
    intro he
    rw [he] at h
    exact plain_some h
  cases ho : op
  case call c =>
    obtain ⟨cal, args, tys⟩ := c
    cases cal with
    | value f =>
      simp only [ho, opPre] at h
      split at h
      · grind [opPre, Rd.run]
      · rename_i b hf
        obtain ⟨ids, _, h2⟩ := bind_some h
        grind [Rd.run]
      · simp [Rd.run] at h
    | invoke r m => left; subst ho; exact other rfl
    | builtin b => left; subst ho; exact other rfl
  case defer c =>
    obtain ⟨cal, args, tys⟩ := c
    cases cal with
    | value f =>
      grind [opPre, callee, Rd.run]
    | invoke r m => left; subst ho; exact other rfl
    | builtin b => left; subst ho; exact other rfl
  case panic x =>
    grind [opPre, Rd.run]
  all_goals (left; subst ho; exact other rfl)
end

/-! ### States -/

/-- One of the things that are put off. -/
def RD1 (g : Gh) (w : World) (d : Deferred) : DefA → Prop
  | .call f args => ∃ cap, d.target = .fn (.func f) cap ∧ RL g w args (d.args.toList ++ cap.toList)
  | .mark b => ∃ k sz, g.rho b 0 = some (k, sz) ∧ d.target = .collected k

theorem RD1_mono {g g' : Gh} {w w' : World} (h : Ext g w g' w') {d : Deferred} : ∀ {p : DefA}, RD1 g w d p → RD1 g' w' d p
  | .call _ _, ⟨cap, ht, hl⟩ => ⟨cap, ht, RL_mono h _ _ hl⟩
  | .mark _, ⟨k, sz, hk, ht⟩ => ⟨k, sz, h.rho _ _ _ hk, ht⟩

def RD (g : Gh) (w : World) : List DefA → List Deferred → Prop
  | [], ds => ds = []
  | p :: ps, ds => ∃ d ds', ds = d :: ds' ∧ RD1 g w d p ∧ RD g w ps ds'

theorem RD_mono {g g' : Gh} {w w' : World} (h : Ext g w g' w') : ∀ (l : List DefA) (ds : List Deferred), RD g w l ds → RD g' w' l ds
  | [], _, hr => hr
  | _ :: ps, _, ⟨d, ds', e, h1, hr⟩ => ⟨d, ds', e, RD1_mono h h1, RD_mono h ps ds' hr⟩

/-- A fence that fences nothing: it says in which round we are. -/
def Fr (ro : Option Nat) : Fence := { Fence.wide with round := ro }

theorem room_Fr (ro : Option Nat) (n : Nat) : (Fr ro).room n := fun _ h => by simp [Fr, Fence.wide] at h
theorem depth_Fr (ro : Option Nat) {n : Nat} : (Fr ro).depth.isSome = true → 1 ≤ n := fun h => by simp [Fr, Fence.wide] at h
theorem calls_Fr {P : Program} {ro : Option Nat} {n : Nat} {f : FuncId} {vs : Array Value} {w : World} {R : Ending → World → Prop} (h : Calls P f vs w R) : CallsIn (Fr ro) n P f vs w R := (callsIn_wide (n := n)).2 h
theorem round_Fr {P : Program} {ro : Option Nat} {n m l : Nat} {f : FuncId} {tmps : Array Value} {assign body : Code} {w : World} {R : Ending → World → Prop} (h : RoundIn Fence.wide m P l f tmps assign body w R) :
    RoundIn (Fr ro) n P l f tmps assign body w R := ⟨trivial, fun c cs _ => h.2 c cs (room_wide _)⟩

structure Sim [Globs] (g : Gh) (s : St) (a : Act) (w : World) : Prop where
  inv : Inv g s.H w
  tmps : RL g w s.A a.tmps.toList
  defs : RD g w s.D a.defers

section
set_option linter.unusedSectionVars false
variable [Globs] {P : Program} {cfg : Cfg} {orc : Orc} {g : Gh} {s : St} {a : Act} {w : World} {ops : Array Oper}

theorem R_nothing : R g w nothing undef := by simp [nothing, R, undef]

theorem Sim.eval (hs : Sim g s a w) (x : Operand) : R g w (evalA s.A x) (a.eval x) := by
  cases x with
  | tmp t =>
    obtain ⟨h1, h2⟩ := RL_get _ _ hs.tmps
    simp only [evalA, Act.eval]
    by_cases ht : t < s.A.length
    · obtain ⟨y, hy, hr⟩ := h2 t _ (List.getElem?_eq_getElem ht)
      simp_all
    grind [R_nothing]
  | const v => exact R_ofValue v
  | global i => simp [evalA, Act.eval, R]
  | func f =>
    simp only [evalA, Act.eval, R]
    grind [RL]

theorem RL_set {l : List AVal} {vs : List Value} {v : AVal} {x : Value} (h : RL g w l vs) (hr : R g w v x) (d : Nat) : RL g w (l.set d v) (vs.set d x) := by
  grind [RL_get, RL_of]

theorem RL_put' {A : List AVal} {v : AVal} {x : Value} (h : RL g w A a.tmps.toList) (hr : R g w v x) (d : Option Tmp) : RL g w (putA A d v) (a.put d x).tmps.toList := by
  cases d with
  | none => exact h
  | some d =>
    simp only [putA, Act.put, Array.toList_setIfInBounds]
    exact RL_set h hr d

theorem put_defers (a : Act) (d : Option Tmp) (v : Value) : (a.put d v).defers = a.defers := by cases d <;> rfl

theorem wanted_sound (hs : Sim g s a w) {o : Oper} {b : Bool} (h : wantedA ops s.A o = some b) : Region.wanted o (yielded ops a.tmps) = b := by
  unfold wantedA at h
  unfold Region.wanted
  split at h
  · rename_i hg
    rw [hg]; simpa using h
  · rename_i j want hg
    rw [hg]
    simp only
    split at h
    · rename_i hd
      simp at h; subst h
      simp only [yielded, hd]
      cases want <;> rfl
    · rename_i d hd
      obtain ⟨h1, h2⟩ := RL_get _ _ hs.tmps
      simp only [Array.length_toList] at h1
      have hy : yielded ops a.tmps j = match a.tmps[d]? with | some (.bool b) => some b | _ => none := by
        simp only [yielded, hd, Option.bind_some]
        rfl
      rw [hy]
      cases hA : s.A[d]? with
      | none =>
        grind
      | some v =>
        rw [hA] at h
        obtain ⟨y, hy, hr⟩ := h2 d v hA
        have hy' : a.tmps[d]? = some y := by simpa using hy
        rw [hy']
        cases v with
        | sc u =>
          simp only [R] at hr; subst hr
          cases y with
          | bool c => simp at h; subst h; simp
          | _ => simp at h; subst h; simp
        | junk => simp at h
        | agg cs => grind [R]
        | tup cs => grind [R]
        | ptr b ver i o => grind [R]
        | cptr cs o => grind [R]
        | sl b ver sz o n => grind [R]
        | lst rows => grind [R]
        | tls rows => grind [R]
        | fn f p q => grind [R]
        | ifc t v => grind [R]
        | mp b => grind [R]
        | yld b => grind [R]
        | sa => grind [R]
        | glob i o => grind [R]
        | emp => grind [R]
        | nz b => grind [R]

theorem RL_evals (hs : Sim g s a w) (args : Array Operand) : RL g w (args.toList.map (evalA s.A)) (args.toList.map a.eval) := by
  induction args.toList with
  | nil => simp [RL]
  | cons x xs ih => simp only [List.map_cons, RL]; exact ⟨_, _, rfl, hs.eval x, ih⟩

theorem mergeFin_not {H : List ABlk} {ids : List Nat} {res : Option (ARes × List ABlk)} {f : FuncId} {args : List AVal} (h : mergeFin H ids res = some (.defer f args)) : False := by
  unfold mergeFin at h
  grind

theorem fzFin_not {H : List ABlk} {ids : List Nat} {res : Option (ARes × List ABlk)} {f : FuncId} {args : List AVal} (h : fzFin H ids res = some (.defer f args)) : False := by
  unfold fzFin at h
  grind [mergeFin_not]

theorem finAny_not {orc : Orc} {H : List ABlk} {ids : List Nat} {z : Bool} {f n : FuncId} {args args' : List AVal} (h : finish orc H (if z then .byFz n args' ids else .byRef n args' ids) = some (.defer f args)) : False := by
  grind [finish, avsF_eq, headsF_eq, mergeFin_not, fzFin_not]

theorem run_callFunc {f : FuncId} {fn : Func} {c : Code} (hf : P.funcs[f]? = some fn) (hb : fn.body = some c) (hn : fn.name ≠ "runtime.NumGoroutine") (args : Array Value) :
    (callFunc f args).run P w = .ok (.enter f args) w := by
  simp [callFunc, hf, hb, hn]

/-- What an operation comes to. -/
def StepPost (Q : Exit → Act → World → Prop) (K : Act → World → Prop) (g : Gh) (s : St) (a : Act) (w : World) : OpRes → Prop
  | .ok s' => ∀ g' a' w', Sim g' s' a' w' → Later g s.H w g' s'.H w' → K a' w'
  | .pan v s' => ∀ g' w' x, v.flat = true → Sim g' s' a w' → Later g s.H w g' s'.H w' → R g' w' v x → Q (.panic [{ v := x, recovered := false }]) a w'

theorem run_bytesOf_slice {H : List ABlk} {x : AVal} {v : Value} {rows : List (List AVal)} {xs : List Int} (hi : Inv g H w) (hr : R g w x v) (h : (elems x).run H = some rows) (hb : bytesA rows = some xs) :
    ∃ ba : ByteArray, (Extern.Bytes.bytesOf v).run P w = .ok ba w ∧ ba.data.toList = Lib.bytesOf xs := by
  have hrows := bytesA_some hb
  obtain ⟨ad, cap, news, rfl, n1, n2, n3, n4⟩ := elems_R (sz := 1) hi hr h (fun r hr => by
    grind)
  have hlen : rows.length = xs.length := by rw [hrows]; simp
  have hflat : rows.flatten = xs.map fun n => AVal.sc (.int .u8 n) := by
    rw [hrows]
    clear hrows hb n1 n2 n4 h hr hlen
    induction xs with
    | nil => rfl
    | cons x xs ih => simp [ih]
  have hnews : news = xs.map fun n => Value.int .u8 n := by
    rw [hflat] at n2
    clear hflat hrows hb n1 n3 n4 h hr hlen
    induction xs generalizing news with
    | nil => simpa [RL] using n2
    | cons x xs ih =>
      grind [RL, R]
  rcases n4 with h0 | ⟨A, rfl, hA⟩
  · have : xs = [] := List.eq_nil_of_length_eq_zero (by omega)
    subst this
    cases ad with
    | none => exact ⟨.empty, by simp [Extern.Bytes.bytesOf], rfl⟩
    | some A => exact ⟨.empty, by simp [Extern.Bytes.bytesOf, h0, Extern.Bytes.loadBytes], rfl⟩
  · have := Lib.run_loadBytesX (P := P) w xs A .empty (fun j y hj => hA j _ (by rw [hnews, List.getElem?_map, hj]; rfl))
    refine ⟨_, by simp only [Extern.Bytes.bytesOf, hlen]; exact this, by simp⟩

theorem compare_found {fn : Func} (h : isCompare fn = true) : Extern.findNext fn = none ∧ Extern.find fn = some Extern.BytealgCompare.compare ∧ (fn.name == "runtime.NumGoroutine") = false := by
  unfold isCompare at h
  simp only [Bool.and_eq_true, Bool.or_eq_true, beq_iff_eq] at h
  obtain ⟨h1, h2⟩ := h
  unfold Extern.findNext Extern.find
  simp only [h1]
  refine ⟨?_, ?_, by decide⟩
  · have e1 : Extern.allNextRows.lookup "internal/bytealg.Compare" = none := by kernel_rfl
    have e2 : Extern.allNextRows.lookup "" = none := by kernel_rfl
    grind
  · have e1 : Extern.allGenericRows.lookup "internal/bytealg.Compare" = none := by kernel_rfl
    have e2 : Extern.allTypedRows.lookup "internal/bytealg.Compare" = none := by kernel_rfl
    have e3 : Extern.allRows.lookup "internal/bytealg.Compare" = some Extern.BytealgCompare.compare := by kernel_rfl
    simp [e1, e2, e3]

theorem ext_sound {H : List ABlk} {fn : Func} {n : Nat} {args : List AVal} {vs : Array Value} {pre : Pre} (hi : Inv g H w) (hl : RL g w args vs.toList) (hf : P.funcs[n]? = some fn) (hb : fn.body.isNone = true) (h : (extA fn args).run H = some pre) :
    ∃ z : Int, pre = .eff { val := .sc (.int .i64 z) } ∧ (callFunc n vs).run P w = .ok (.value (.int .i64 z)) w := by
  unfold extA at h
  split at h
  · rename_i hc
    obtain ⟨c1, c2, c3⟩ := compare_found hc
    split at h
    · rename_i x y
      obtain ⟨ra, ha, h⟩ := bind_some h
      obtain ⟨rb, hb2, h⟩ := bind_some h
      split at h
      · rename_i xs ys hx hy
        simp only [Rd.run, Option.some.injEq] at h
        subst h
        refine ⟨_, rfl, ?_⟩
        simp only [RL] at hl
        obtain ⟨vx, l1, e1, hrx, vy, l2, rfl, hry, rfl⟩ := hl
        obtain ⟨ba, p1, p2⟩ := run_bytesOf_slice (P := P) hi hrx ha hx
        obtain ⟨bb, q1, q2⟩ := run_bytesOf_slice (P := P) hi hry hb2 hy
        have hvs : vs = #[vx, vy] := by apply Array.toList_inj.1; rw [e1]
        rw [run_callFunc_extern hf c3 hb c1 c2, hvs]
        have : (Extern.BytealgCompare.compare #[vx, vy]).run P w = .ok (.int .i64 (Lib.compareBytes (Lib.bytesOf xs) (Lib.bytesOf ys))) w := by
          change Sem.run P (do pure (goInt (Extern.BytealgCompare.cmp (← Extern.Bytes.bytesOf vx) (← Extern.Bytes.bytesOf vy)))) w = _
          simp only [Sem.run_bind, p1, q1, Result.andThen_ok, Sem.run_pure]
          rw [Lib.cmp_eq, p2, q2]
          rfl
        rw [this]
        rfl
      · simp [Rd.run] at h
    · simp [Rd.run] at h
  · simp [Rd.run] at h

/-- In a round nothing is put off. -/
def Calm (ro : Option Nat) (o : Oper) : Prop := ro = none ∨ putsOff o = false

theorem Calm.semAt {ro : Option Nat} {o : Oper} (h : Calm ro o) (ρ : Operand → Value) : o.semAt (Fr ro).round ρ = execOp ρ o := by
  unfold Oper.semAt
  rcases h with rfl | h
  · simp [Fr]
  grind [Fr, putsOff]

theorem run_yieldOp {k : Nat} {rec : Loop} {f : Operand} {args : Array Operand} {tys : Array TypeId} {o : Oper} (ho : o.op = .call { callee := .value f, args := args, argTypes := tys }) (hf : a.eval f = .func (.yield k) #[] #[])
    (hk : w.heap[k]? = some (.loop rec)) (hsz : (args.map a.eval).size = rec.params.size) : (execOp a.eval o).run P w = .ok (.round k rec.fn (roundTmps rec (args.map a.eval)) rec.assign rec.body) w := by
  have hy := Go.run_yield (P := P) hk hsz
  simp only [execOp, ho, resolve, hf, Deferred.ofValue, invoke]
  simpa [roundTmps] using hy

theorem step_sound {ro : Option Nat} (ho : OrcOk P orc) (hs : Sim g s a w) {i n0 nid : Nat} {o : Oper} {r : OpRes} {f : Foot} {K : Act → World → Prop} {Q : Exit → Act → World → Prop} (hi : ops[i]? = some o) (hcalm : Calm ro o)
    (h : stepOp P cfg orc ops n0 o nid s = some (r, f)) (hK : StepPost Q K g s a w r) : wpOpIn (Fr ro) 0 P ops Q i K a w := by
  unfold stepOp at h
  dsimp only at h
  unfold wpOpIn
  simp only [hi]
  split at h
  · cases h
  · rename_i hw
    rw [wanted_sound hs hw]
    simp only [putF] at h
    have hr : r = .ok { s with A := putA s.A o.dst nothing } := by
      cases hd : o.dst <;> simp [hd, setF_eq] at h <;> simp [putA, ← h.1]
    subst hr
    simp only [Bool.false_eq_true, if_false]
    refine ⟨fun _ _ => trivial, ?_⟩
    exact hK g _ w ⟨hs.inv, RL_put' hs.tmps R_nothing o.dst, by rw [put_defers]; exact hs.defs⟩ (Later.refl _ _ _)
  · rename_i hw
    rw [wanted_sound hs hw]
    simp only [if_true]
    refine ⟨fun _ _ => trivial, ?_⟩
    rw [hcalm.semAt]
    split at h
    · cases h
    · rename_i pre hpre
      split at h
      · cases h
      · -- a panic
        rename_i v ids hfin
        simp at h
        obtain ⟨rfl, -⟩ := h
        rcases opPre_cases hpre with ⟨e, rfl, _⟩ | ⟨fo, args, tys, n, p, q, hop, hf, hc, hceq⟩ | ⟨fo, args, tys, n, p, q, hop, hf, rfl⟩ | ⟨x, t, u, hop, hx, hfl, rfl⟩ | ⟨fo, args, tys, b, ids', hop, hf, rfl⟩ | ⟨fo, args, tys, n, p, q, fnx, hop, hf, hfx, hbx, hcx⟩
        · simp [finish] at hfin
        · -- in a callee
          have hev := hs.eval fo
          rw [hf] at hev
          simp only [R] at hev
          obtain ⟨va, vb, hfo, l1, l2⟩ := hev
          have hl : RL g w (p ++ args.toList.map (evalA s.A) ++ q) ((va.toArray ++ args.map a.eval) ++ vb.toArray).toList := by
            simp only [Array.toList_append, Array.toList_map]
            exact RL_append (RL_append l1 (RL_evals hs args)) l2
          have key : (∃ fn c, P.funcs[n]? = some fn ∧ fn.body = some c ∧ fn.name ≠ "runtime.NumGoroutine") ∧ v.flat = true ∧ Calls P n ((va.toArray ++ args.map a.eval) ++ vb.toArray) w fun e w' => ∃ x, e = .panicked [{ v := x, recovered := false }] ∧ Inv g (ids.foldl (fun H i => H.set i .dead) s.H) w' ∧ R g w' v x ∧ Later g s.H w g (ids.foldl (fun H i => H.set i .dead) s.H) w' := by
            unfold callPre at hc
            split at hc
            · obtain ⟨args', h1, h2⟩ := bind_some hc
              grind [Rd.run, byVal_post, hs.inv]
            · obtain ⟨ids', h1, h2⟩ := bind_some hc
              simp only [Rd.run, Option.some.injEq] at h2
              subst h2
              obtain ⟨k1, ⟨v', he, _⟩ | ⟨v', he, hfl, k2⟩⟩ := byAny_post ho hs.inv hl hfin
              · cases he
              · cases he; exact ⟨k1, hfl, k2⟩
          obtain ⟨⟨fn, c, k1, k2, k3⟩, hfl, hcalls⟩ := key
          have hex : (execOp a.eval o).run P w = .ok (.enter n ((va.toArray ++ args.map a.eval) ++ vb.toArray)) w := by
            simp [execOp, hop, resolve, hfo, Deferred.ofValue, invoke, run_callFunc k1 k2 k3]
          rw [hex]
          simp only [Oper.uponIn]
          refine ⟨depth_Fr ro, calls_Fr (hcalls.mono ?_)⟩
          rintro e w' ⟨x, rfl, hi', hr, hla⟩
          exact hK g w' x hfl ⟨hi', RL_mono hla.ext _ _ hs.tmps, RD_mono hla.ext _ _ hs.defs⟩ hla hr
        · simp [finish] at hfin
        · simp [finish] at hfin
          obtain ⟨rfl, rfl⟩ := hfin
          have hev := hs.eval x
          rw [hx] at hev
          have hev' := hev
          simp only [R] at hev'
          obtain ⟨y, hy, _⟩ := hev'
          have hex : (execOp a.eval o).run P w = .halt (.panic (.iface t y)) w := by
            simp [execOp, hop, hy, Instr.panic]
          rw [hex]
          simp only [Oper.uponIn]
          rw [hy] at hev
          exact hK g w _ (by simpa [AVal.flat] using hfl) hs (Later.refl _ _ _) hev
        · -- in a round
          have hev := hs.eval fo
          rw [hf] at hev
          simp only [R] at hev
          obtain ⟨k, sz, hk, hfo⟩ := hev
          have hl : RL g w (args.toList.map (evalA s.A)) (args.map a.eval).toList := by
            simp only [Array.toList_map]; exact RL_evals hs args
          obtain ⟨rec, r1, r2, ⟨eff, he, _⟩ | ⟨v', he, hfl, hround⟩⟩ := round_post ho hs.inv hl hk hfin
          · cases he
          · cases he
            rw [run_yieldOp hop hfo r1 r2]
            simp only [Oper.uponIn]
            refine ⟨depth_Fr ro, round_Fr (hround.mono ?_)⟩
            rintro e w' ⟨x, rfl, hi', hr, hla⟩
            exact hK g w' x hfl ⟨hi', RL_mono hla.ext _ _ hs.tmps, RD_mono hla.ext _ _ hs.defs⟩ hla hr
        · exfalso
          have hev := hs.eval fo
          rw [hf] at hev
          simp only [R] at hev
          obtain ⟨va, vb, hfo, l1, l2⟩ := hev
          have hl : RL g w (p ++ args.toList.map (evalA s.A) ++ q) ((va.toArray ++ args.map a.eval) ++ vb.toArray).toList := by
            simp only [Array.toList_append, Array.toList_map]
            exact RL_append (RL_append l1 (RL_evals hs args)) l2
          grind [ext_sound, hs.inv, finish]
      · -- it goes well
        rename_i e hfin
        have hr : r = .ok { s with A := putA s.A o.dst e.val, H := e.apply s.H } := by
          rw [effF_eq] at h
          simp only [putF, applyF_eq] at h
          cases hd : o.dst <;> simp [hd, setF_eq] at h <;> simp [putA, ← h.1]
        subst hr
        rcases opPre_cases hpre with ⟨e', rfl, hop, hal⟩ | ⟨fo, args, tys, n, p, q, hop, hf, hc, hceq⟩ | ⟨fo, args, tys, n, p, q, hop, hf, rfl⟩ | ⟨x, t, u, hop, hx, hfl, rfl⟩ | ⟨fo, args, tys, b, ids', hop, hf, rfl⟩ | ⟨fo, args, tys, n, p, q, fnx, hop, hf, hfx, hbx, hcx⟩
        · simp [finish] at hfin
          subst hfin
          obtain ⟨v, w', g', hex, hi', hr, hla⟩ := opA_ran hs.inv hs.eval hal hop
          have hsim : Sim g' { s with A := putA s.A o.dst e'.val, H := e'.apply s.H } (a.put o.dst v) w' :=
            ⟨hi', RL_put' (RL_mono hla.ext _ _ hs.tmps) hr o.dst, by rw [put_defers]; exact RD_mono hla.ext _ _ hs.defs⟩
          rcases hex with hex | ⟨hex, rfl⟩ <;> rw [hex] <;> exact hK g' _ w' hsim hla
        · have hev := hs.eval fo
          rw [hf] at hev
          simp only [R] at hev
          obtain ⟨va, vb, hfo, l1, l2⟩ := hev
          have hl : RL g w (p ++ args.toList.map (evalA s.A) ++ q) ((va.toArray ++ args.map a.eval) ++ vb.toArray).toList := by
            simp only [Array.toList_append, Array.toList_map]
            exact RL_append (RL_append l1 (RL_evals hs args)) l2
          have key : (∃ fn c, P.funcs[n]? = some fn ∧ fn.body = some c ∧ fn.name ≠ "runtime.NumGoroutine") ∧ Calls P n ((va.toArray ++ args.map a.eval) ++ vb.toArray) w fun en w' => ∃ x g', en = .returned x ∧ Inv g' (e.apply s.H) w' ∧ R g' w' e.val x ∧ Later g s.H w g' (e.apply s.H) w' := by
            unfold callPre at hc
            split at hc
            · obtain ⟨args', h1, h2⟩ := bind_some hc
              grind [Rd.run, byVal_post, hs.inv, Eff.apply]
            · obtain ⟨ids', h1, h2⟩ := bind_some hc
              simp only [Rd.run, Option.some.injEq] at h2
              subst h2
              obtain ⟨k1, ⟨v', he, k2⟩ | ⟨v', he, _⟩⟩ := byAny_post ho hs.inv hl hfin
              · cases he; exact ⟨k1, k2⟩
              · cases he
          obtain ⟨⟨fn, c, k1, k2, k3⟩, hcalls⟩ := key
          have hex : (execOp a.eval o).run P w = .ok (.enter n ((va.toArray ++ args.map a.eval) ++ vb.toArray)) w := by
            simp [execOp, hop, resolve, hfo, Deferred.ofValue, invoke, run_callFunc k1 k2 k3]
          rw [hex]
          simp only [Oper.uponIn]
          refine ⟨depth_Fr ro, calls_Fr (hcalls.mono ?_)⟩
          rintro en w' ⟨x, g', rfl, hi', hr, hla⟩
          exact hK g' _ w' ⟨hi', RL_put' (RL_mono hla.ext _ _ hs.tmps) hr o.dst, by rw [put_defers]; exact RD_mono hla.ext _ _ hs.defs⟩ hla
        · simp [finish] at hfin
        · simp [finish] at hfin
        · have hev := hs.eval fo
          rw [hf] at hev
          simp only [R] at hev
          obtain ⟨k, sz, hk, hfo⟩ := hev
          have hl : RL g w (args.toList.map (evalA s.A)) (args.map a.eval).toList := by
            simp only [Array.toList_map]; exact RL_evals hs args
          obtain ⟨rec, r1, r2, ⟨eff, he, hround⟩ | ⟨v', he, _⟩⟩ := round_post ho hs.inv hl hk hfin
          · cases he
            rw [run_yieldOp hop hfo r1 r2]
            simp only [Oper.uponIn]
            refine ⟨depth_Fr ro, round_Fr (hround.mono ?_)⟩
            rintro en w' ⟨x, g', rfl, hi', hr, hla⟩
            exact hK g' _ w' ⟨hi', RL_put' (RL_mono hla.ext _ _ hs.tmps) hr o.dst, by rw [put_defers]; exact RD_mono hla.ext _ _ hs.defs⟩ hla
          · cases he
        · -- a function without a body
          have hev := hs.eval fo
          rw [hf] at hev
          simp only [R] at hev
          obtain ⟨va, vb, hfo, l1, l2⟩ := hev
          have hl : RL g w (p ++ args.toList.map (evalA s.A) ++ q) ((va.toArray ++ args.map a.eval) ++ vb.toArray).toList := by
            simp only [Array.toList_append, Array.toList_map]
            exact RL_append (RL_append l1 (RL_evals hs args)) l2
          obtain ⟨z, rfl, hcall⟩ := ext_sound (P := P) hs.inv hl hfx hbx hcx
          simp [finish] at hfin
          subst hfin
          have hex : (execOp a.eval o).run P w = .ok (.value (.int .i64 z)) w := by
            simp only [execOp, hop, resolve, hfo, Deferred.ofValue]
            simpa [invoke] using hcall
          rw [hex]
          simp only [Oper.uponIn]
          have hap : ({ val := .sc (.int .i64 z) } : Eff).apply s.H = s.H := by simp [Eff.apply]
          refine hK g _ w ⟨?_, RL_put' hs.tmps (by simp [R]) o.dst, by rw [put_defers]; exact hs.defs⟩ ?_
          · rw [hap]; exact hs.inv
          · rw [hap]; exact Later.refl _ _ _
      · -- put off
        rename_i fd args' hfin
        have hr : r = .ok { s with A := putA s.A o.dst nothing, D := .call fd args' :: s.D } := by
          simp only [putF, avsF_eq] at h
          cases hd : o.dst <;> simp [hd, setF_eq] at h <;> simp [putA, ← h.1]
        subst hr
        rcases opPre_cases hpre with ⟨e', rfl, hop, hal⟩ | ⟨fo, args, tys, n, p, q, hop, hf, hc, hceq⟩ | ⟨fo, args, tys, n, p, q, hop, hf, rfl⟩ | ⟨x, t, u, hop, hx, hfl, rfl⟩ | ⟨fo, args, tys, b, ids', hop, hf, rfl⟩ | ⟨fo, args, tys, n, p, q, fnx, hop, hf, hfx, hbx, hcx⟩
        · simp [finish] at hfin
        · exfalso
          unfold callPre at hc
          split at hc
          · obtain ⟨args2, h1, h2⟩ := bind_some hc
            grind [Rd.run, finish, avsF_eq]
          · obtain ⟨ids', h1, h2⟩ := bind_some hc
            simp only [Rd.run, Option.some.injEq] at h2
            subst h2
            exact finAny_not hfin
        · simp [finish] at hfin
          obtain ⟨rfl, rfl⟩ := hfin
          have hev := hs.eval fo
          rw [hf] at hev
          simp only [R] at hev
          obtain ⟨va, vb, hfo, l1, l2⟩ := hev
          have hex : (execOp a.eval o).run P w = .ok (.defer { target := .fn (.func n) vb.toArray, args := va.toArray ++ args.map a.eval }) w := by
            simp [execOp, hop, resolve, hfo, Deferred.ofValue]
          rw [hex]
          simp only [Oper.uponIn]
          refine hK g _ w ⟨hs.inv, RL_put' (a := { tmps := a.tmps, defers := { target := .fn (.func n) vb.toArray, args := va.toArray ++ args.map a.eval } :: a.defers }) hs.tmps R_nothing o.dst, ?_⟩ (Later.refl _ _ _)
          rw [put_defers]
          refine ⟨_, _, rfl, ⟨vb.toArray, rfl, ?_⟩, hs.defs⟩
          simp only [Array.toList_append, Array.toList_map]
          grind [RL_append, RL_evals]
        · simp [finish] at hfin
        · grind [finish, avsF_eq, headsF_eq, mergeFin_not]
        · exfalso
          have hev := hs.eval fo
          rw [hf] at hev
          simp only [R] at hev
          obtain ⟨va, vb, hfo, l1, l2⟩ := hev
          have hl : RL g w (p ++ args.toList.map (evalA s.A) ++ q) ((va.toArray ++ args.map a.eval) ++ vb.toArray).toList := by
            simp only [Array.toList_append, Array.toList_map]
            exact RL_append (RL_append l1 (RL_evals hs args)) l2
          grind [ext_sound, hs.inv, finish]

end
end Go.AM
