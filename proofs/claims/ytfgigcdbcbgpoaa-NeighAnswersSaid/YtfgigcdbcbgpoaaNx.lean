/- The law of answers: whatever the numbers, the bindings, the domain and the frame. No conditions. -/
import Derived.Test.YtfgigcdbcbgpoaaWl
import Derived.Test.YtfgigcdbcbgpoaaVn
import Derived.Test.YtfgigcdbcbgpoaaNw
namespace Go.L
open Go.AM
set_option maxRecDepth 100000
set_option linter.unusedSimpArgs false
set_option linter.unusedVariables false
set_option linter.unusedSectionVars false
end Go.L
namespace Go.AM
section
variable {P : Program} [Globs] {ρ : Type} {n : Nat} {p : ρ → Prop}
theorem AtG.brT {d : Tmp} {c : Bool} {t f : G P ρ} (hc : c = true) (ht : AtG n t p) : AtG n (.br d c t f) p := .br (fun _ => ht) (fun h => by rw [hc] at h; cases h)
theorem AtG.brF {d : Tmp} {c : Bool} {t f : G P ρ} (hc : c = false) (ht : AtG n f p) : AtG n (.br d c t f) p := .br (fun h => by rw [hc] at h; cases h) (fun _ => ht)
end
end Go.AM
namespace Go.L
open Go.AM
set_option maxRecDepth 100000
set_option linter.unusedSimpArgs false
set_option linter.unusedVariables false
set_option linter.unusedSectionVars false
/-- Of the first elements. -/
def Fst {α : Type} (l : List α) (i : Int) (p : α → Prop) : Prop := ∀ (j : Nat) z, j < i.toNat → l[j]? = some z → p z
def Ext1 {α : Type} (l : List α) (i : Int) (p : α → Prop) : Prop := ∃ (j : Nat) (z : α), j < i.toNat ∧ l[j]? = some z ∧ p z
theorem Fst.step {α : Type} {l : List α} {i : Int} {p : α → Prop} {y : α} (h0 : 0 ≤ i) (hg : l[i.toNat]? = some y) (h : Fst l i p) (hy : p y) : Fst l (i + 1) p := by
  intro j z hj hz
  by_cases he : j = i.toNat
  · subst he; rw [hg] at hz; cases hz; exact hy
  · exact h j z (by omega) hz
theorem Ext1.old {α : Type} {l : List α} {i : Int} {p : α → Prop} (h0 : 0 ≤ i) (h : Ext1 l i p) : Ext1 l (i + 1) p := by
  obtain ⟨j, z, h1, h2, h3⟩ := h
  exact ⟨j, z, by omega, h2, h3⟩
theorem Ext1.new {α : Type} {l : List α} {i : Int} {p : α → Prop} {y : α} (h0 : 0 ≤ i) (hg : l[i.toNat]? = some y) (hy : p y) : Ext1 l (i + 1) p := ⟨i.toNat, y, by omega, hg, hy⟩
theorem Ext1.inv {α : Type} {l : List α} {i : Int} {p : α → Prop} {y : α} (h0 : 0 ≤ i) (hg : l[i.toNat]? = some y) (h : Ext1 l (i + 1) p) : Ext1 l i p ∨ p y := by
  obtain ⟨j, z, h1, h2, h3⟩ := h
  by_cases he : j = i.toNat
  · subst he; rw [hg] at h2; cases h2; exact .inr h3
  · exact .inl ⟨j, z, by omega, h2, h3⟩
/-- The address of a binding is one host's. -/
def macV (k : Known) : Prop := k.MAC ≤ 281474976710655 ∧ castM k.MAC = false
theorem vf_suppress {f : Fabric} (hv : Vf f) (s : Bool) : Vf (Go.L.Fabric.mk f.Leaves f.Spines f.Links f.Tenants f.BDs f.Segments f.Hosts f.Leaks f.Elect f.Horizon f.Router s f.Trees f.Timers) := by
  obtain ⟨h1, h2, h3, h4, h5, h6, h7, h8, h9, h10, h11, h12, h13, h14, h15, h16, h17, h18⟩ := hv
  exact ⟨h1, h2, h3, h4, h5, h6, h7, h8, h9, h10, h11, h12, h13, h14, h15, h16, h17, h18⟩
theorem lives_at (n : Nat) : At (c_law29_lives.S n ()) fun (b : Bool) => b = true := ⟨true, rfl, rfl⟩
theorem reply_fr {m : Int} {x : Frame} (hm : m ≤ 281474976710655) (hc : castM m = false) (hx : FrA x) : FrA (replyS m x.ARP) := by
  refine ⟨hm, hx.sm, hc, rfl, rfl, rfl, rfl, rfl, rfl, ?_, ?_, hm, hx.sm⟩
  · show (1 : Int) ≤ 2; omega
  · show (2 : Int) ≤ 2; omega
/-- What is said of a round that looks for a binding. -/
def foundI (known : List Known) (bd tip src : Int) (a : Bool × Int) : Prop := 0 ≤ a.2 ∧ a.2 ≤ (known.length : Int) ∧ (Ext1 known a.2 (fun k => k.BD = bd ∧ k.IP = tip ∧ k.MAC = src) → a.1 = true)
theorem found_step {known : List Known} {bd tip src : Int} {a : Bool × Int} {y : Known} {c : Bool} {q : Bool → Prop} (hk : known.length ≤ 30) (h : foundI known bd tip src a) (hlt : a.2 < (known.length : Int)) (hy : known[a.2.toNat]? = some y)
    (hc : (a.1 = true ∨ (y.BD = bd ∧ y.IP = tip ∧ y.MAC = src)) → c = true) : RoundAt (foundI known bd tip src) (fun a => ((known.length : Int) - a.2).toNat) q a (.inl (c, Go.IntKind.wrap .i64 (a.2 + 1))) := by
  obtain ⟨h0, h1, h2⟩ := h
  rw [wrap_i64 (by omega) (by omega)]
  refine ⟨⟨by show 0 ≤ a.2 + 1; omega, by show a.2 + 1 ≤ _; omega, fun he => hc ?_⟩, by (try simp only); omega⟩
  rcases Ext1.inv h0 hy he with h | h
  · exact .inl (h2 h)
  · exact .inr h
theorem found_step' {known : List Known} {a : Bool × Int} {q : Bool → Prop} (hk : known.length ≤ 30) (h : 0 ≤ a.2 ∧ a.2 ≤ (known.length : Int) ∧ a.1 = true) (hlt : a.2 < (known.length : Int)) :
    RoundAt (fun a : Bool × Int => 0 ≤ a.2 ∧ a.2 ≤ (known.length : Int) ∧ a.1 = true) (fun a => ((known.length : Int) - a.2).toNat) q a (.inl (true, Go.IntKind.wrap .i64 (a.2 + 1))) := by
  obtain ⟨h0, h1, h2⟩ := h
  rw [wrap_i64 (by omega) (by omega)]
  exact ⟨⟨by show 0 ≤ a.2 + 1; omega, by show a.2 + 1 ≤ _; omega, rfl⟩, by (try simp only); omega⟩
/-- What Suppress says, as it is used. -/
theorem sup_no {f : Fabric} {known : List Known} {bd : Int} {x : Frame} {r : Prod Frame Bool}
    (h : (∃ b, 0 ≤ bd ∧ f.BDs[bd.toNat]? = some b ∧ AskP x ∧ (answerS f known b.Gateway bd x.ARP).2 = true ∧ r = (replyS (answerS f known b.Gateway bd x.ARP).1 x.ARP, true)) ∨
      ((∀ b, 0 ≤ bd → f.BDs[bd.toNat]? = some b → AskP x → (answerS f known b.Gateway bd x.ARP).2 = false) ∧ r = (zeroF, false)))
    (hn : ∀ b, 0 ≤ bd → f.BDs[bd.toNat]? = some b → AskP x → (answerS f known b.Gateway bd x.ARP).2 = false) : r = (zeroF, false) := by
  rcases h with ⟨b, h1, h2, h3, h4, -⟩ | ⟨-, h⟩
  · rw [hn b h1 h2 h3] at h4; cases h4
  · exact h
theorem sup_yes {f : Fabric} {known : List Known} {bd : Int} {x : Frame} {r : Prod Frame Bool} {b : BD}
    (h : (∃ b, 0 ≤ bd ∧ f.BDs[bd.toNat]? = some b ∧ AskP x ∧ (answerS f known b.Gateway bd x.ARP).2 = true ∧ r = (replyS (answerS f known b.Gateway bd x.ARP).1 x.ARP, true)) ∨
      ((∀ b, 0 ≤ bd → f.BDs[bd.toNat]? = some b → AskP x → (answerS f known b.Gateway bd x.ARP).2 = false) ∧ r = (zeroF, false)))
    (h0 : 0 ≤ bd) (hb : f.BDs[bd.toNat]? = some b) (hx : AskP x) (ha : (answerS f known b.Gateway bd x.ARP).2 = true) : r = (replyS (answerS f known b.Gateway bd x.ARP).1 x.ARP, true) := by
  rcases h with ⟨b', h1, h2, h3, h4, e⟩ | ⟨hn, -⟩
  · obtain rfl : b' = b := Option.some.inj (h2.symm.trans hb)
    exact e
  · rw [hn b h0 hb hx] at ha; cases ha
theorem tail0 {n : Nat} {r : Prod Frame Bool} {m0 m1 m2 m3 d1 d2 : Nat} {ts1 ts2 : List TS} {B : G prog Bool} (ht : tsOk ts2 = true) (h : r = (zeroF, false)) :
    AtG n (P := prog) (.skip m0 <| .br d1 (!(r.2 == false)) (.skip m1 <| .done ts1 false) (.skip m2 <| .br d2 (!r.2) (.skip m3 <| .done ts2 ((r.1.Src == (0 : Int)) && ((r.1.Dst == (0 : Int)) && ((r.1.Kind == (0 : Int)) && ((r.1.ARP.Op == (0 : Int)) && ((r.1.ARP.SenderMAC == (0 : Int)) && ((r.1.ARP.SenderIP == (0 : Int)) && ((r.1.ARP.TargetMAC == (0 : Int)) && ((r.1.ARP.TargetIP == (0 : Int)) && ((r.1.IP.Src == (0 : Int)) && ((r.1.IP.Dst == (0 : Int)) && ((r.1.IP.TTL == (0 : Int)) && ((r.1.IP.Proto == (0 : Int)) && ((r.1.IP.SrcPort == (0 : Int)) && ((r.1.IP.DstPort == (0 : Int)) && ((r.1.Data == (0 : Int)) && true)))))))))))))))) B)) fun b => b = true := by
  subst h
  exact .skip (.brF rfl (.skip (.brT rfl (.skip (.done ht rfl)))))
theorem found_at {n : Nat} {known : List Known} {bd tip src : Int} {g : Bool} {i : Int} {a : Bool × Int} {hd : List TS} (hk : known.length ≤ 30) (h : foundI known bd tip src a) (hlt : a.2 < (known.length : Int)) :
    ∃ y, (idxO known eKnown 3 a.2).run = some y ∧ known[a.2.toNat]? = some y := idx_at known eKnown 3 a.2 h.1 hlt
theorem answers_run (l : List Int) (s : Bool) (known : List Known) (bd : Int) (x : Frame) : AtG 6000 (g_law29_NeighAnswers l s known bd x) fun b => b = true := by
  unfold g_law29_NeighAnswers
  refine .skip (.call _ (lives_at 6000) fun r hr => .skip (.brF (by rw [hr]; rfl) (.skip (.op () rfl (.skip (.br (fun _ => .skip (.done rfl rfl)) fun _ => .skip (.op () rfl (.skip (.br (fun _ => .skip (.done rfl rfl)) fun hlen => .skip ?_)))))))))
  have hk : known.length ≤ 30 := by simp only [decide_eq_false_iff_not] at hlen; omega
  refine .call Vf (fabric_valid l (by decide)) fun f hv => .skip ?_
  have hs := vf_small (vf_suppress hv s)
  have hc : (checkS (Go.L.Fabric.mk f.Leaves f.Spines f.Links f.Tenants f.BDs f.Segments f.Hosts f.Leaks f.Elect f.Horizon f.Router s f.Trees f.Timers)).1 = 0 := by rw [vf_check (vf_suppress hv s)]
  refine .loop (fun (a : Bool × Int) => 0 ≤ a.2 ∧ a.2 ≤ (known.length : Int) ∧ Fst known a.2 macV ∧ (a.1 = true ↔ Ext1 known a.2 (fun k => hitS bd x.ARP k = true))) (fun a => ((known.length : Int) - a.2).toNat)
    (fun (t : Unit ⊕ Bool) => match t with | .inl _ => True | .inr b => (∀ k ∈ known, macV k) ∧ (b = true ↔ ∃ k ∈ known, hitS bd x.ARP k = true)) rfl
    ⟨by simp, by simp, fun j z hj => by simp at hj, ⟨fun h => (by cases h), fun ⟨j, z, hj, _⟩ => by simp at hj⟩⟩ (by simp; omega) ?_ ?_
  · rintro a ⟨h0, h1, h2, h3⟩
    refine .skip (.op () rfl (.skip (.br (fun h => .skip ?_) fun h => .skip (.done rfl ?_))))
    · simp only [decide_eq_true_eq] at h
      obtain ⟨y, hy, hg⟩ := idx_at known eKnown 3 a.2 h0 h
      have step : macV y → ∀ c, (c = true ↔ (a.1 = true ∨ hitS bd x.ARP y = true)) → RoundAt (fun (a : Bool × Int) => 0 ≤ a.2 ∧ a.2 ≤ (known.length : Int) ∧ Fst known a.2 macV ∧ (a.1 = true ↔ Ext1 known a.2 (fun k => hitS bd x.ARP k = true))) (fun a => ((known.length : Int) - a.2).toNat)
          (fun (t : Unit ⊕ Bool) => match t with | .inl _ => True | .inr b => (∀ k ∈ known, macV k) ∧ (b = true ↔ ∃ k ∈ known, hitS bd x.ARP k = true)) a (.inl (c, Go.IntKind.wrap .i64 (a.2 + 1))) := by
        intro hm c hc
        rw [wrap_i64 (by omega) (by omega)]
        refine ⟨⟨by show 0 ≤ a.2 + 1; omega, by show a.2 + 1 ≤ _; omega, h2.step h0 hg hm, ?_⟩, by (try simp only); omega⟩
        show c = true ↔ _
        rw [hc, h3]
        constructor
        · rintro (q | q)
          · exact q.old h0
          · exact Ext1.new h0 hg q
        · exact fun q => q.inv h0 hg
      refine .op y hy (.skip (.br (fun _ => .skip (.done rfl trivial)) fun hmax => .skip (.op y hy (.skip (.call _ (rmc_at 6000 y.MAC) fun c hcm => .skip (.br (fun _ => .skip (.done rfl trivial)) fun hmc => .skip ?_))))))
      have hm : macV y := by
        simp only [decide_eq_false_iff_not] at hmax
        exact ⟨by omega, by rw [← hcm, hmc]⟩
      refine .br (fun ha => .skip (.done rfl (step hm _ (by simp [ha])))) fun ha => .skip (.op y hy (.skip (.br (fun k1 => .skip (.op y hy (.skip (.br (fun k2 => .skip (.op y hy (.skip (.done rfl (step hm _ ?_))))) fun k2 => .skip (.done rfl (step hm _ ?_)))))) fun k1 => .skip (.done rfl (step hm _ ?_)))))
      · rw [ha]; simp [hitS, k1, k2]
      · rw [ha]; simp [hitS, k2]
      · rw [ha]; simp [hitS, k1]
    · simp only [decide_eq_false_iff_not] at h
      have e : a.2.toNat = known.length := by omega
      refine ⟨fun k hkm => ?_, ?_⟩
      · obtain ⟨j, hj, rfl⟩ := List.getElem_of_mem hkm
        exact h2 j _ (by omega) (List.getElem?_eq_getElem hj)
      · rw [h3]
        constructor
        · rintro ⟨j, z, -, hz, hp⟩
          exact ⟨z, List.mem_of_getElem? hz, hp⟩
        · rintro ⟨k, hkm, hp⟩
          obtain ⟨j, hj, rfl⟩ := List.getElem_of_mem hkm
          exact ⟨j, _, by omega, List.getElem?_eq_getElem hj, hp⟩
  · intro t ht
    match t, ht with
    | .inl _, _ => exact .done rfl rfl
    | .inr t, ⟨hmac, ht⟩ =>
      refine .skip (.call _ (suppress_at 6000 _ known bd x (by decide) hs hc (by omega)) fun r hsup => .skip ?_)
      have hno : (AskP x → 0 ≤ bd → ∀ b, f.BDs[bd.toNat]? = some b → (answerS (Go.L.Fabric.mk f.Leaves f.Spines f.Links f.Tenants f.BDs f.Segments f.Hosts f.Leaks f.Elect f.Horizon f.Router s f.Trees f.Timers) known b.Gateway bd x.ARP).2 = false) → r = (zeroF, false) := fun hn => sup_no hsup (fun b h0 hb hx => hn hx h0 b hb)
      have n2 : ∀ {q : Int}, (x.Kind = 1 → (q = 0 ↔ FrA x)) → (q == (0 : Int)) = false → r = (zeroF, false) := fun hq g2 => hno fun hx _ b _ => by
        rw [(hq hx.kind).2 hx.fr] at g2; cases g2
      have n3 : (x.Kind == (1 : Int)) = false → r = (zeroF, false) := fun g3 => hno fun hx _ b _ => by
        rw [hx.kind] at g3; cases g3
      have n4 : (x.ARP.Op == (1 : Int)) = false → r = (zeroF, false) := fun g4 => hno fun hx _ b _ => by
        rw [hx.op] at g4; cases g4
      have n5 : ∀ {m : Bool}, m = castM x.ARP.SenderMAC → (!m) = false → r = (zeroF, false) := fun hm g5 => hno fun hx _ b _ => by
        rw [hm, hx.sm] at g5; cases g5
      have n6 : (x.ARP.SenderIP != x.ARP.TargetIP) = false → r = (zeroF, false) := fun g6 => hno fun hx _ b _ => absurd (by simpa using g6) hx.ip
      refine .br (fun g1 => ?_) (fun g1 => ?_)
      rotate_left
      · have n1 : r = (zeroF, false) := hno fun _ h0 => absurd h0 (by simpa using g1)
        refine .skip (.call _ (ref07_at 6000 x) fun (q : Int) hq => .skip ?_)
        refine .br (fun g2 => .skip ?_) fun g2 => tail0 rfl n1
        refine .br (fun g3 => .skip ?_) fun g3 => tail0 rfl n1
        refine .br (fun g4 => .skip ?_) fun g4 => tail0 rfl n1
        refine .call _ (rmc_at 6000 _) fun (m : Bool) hm => .skip ?_
        refine .br (fun g5 => .skip ?_) fun g5 => tail0 rfl n1
        exact .br (fun g6 => tail0 rfl n1) fun g6 => tail0 rfl n1
      · refine .skip (.op () rfl (.skip (.call _ (ref07_at 6000 x) fun (q : Int) hq => .skip ?_)))
        refine .br (fun g2 => .skip ?_) fun g2 => tail0 rfl (n2 hq g2)
        refine .br (fun g3 => .skip ?_) fun g3 => tail0 rfl (n3 g3)
        refine .br (fun g4 => .skip ?_) fun g4 => tail0 rfl (n4 g4)
        refine .call _ (rmc_at 6000 _) fun (m : Bool) hm => .skip ?_
        refine .br (fun g5 => .skip ?_) fun g5 => tail0 rfl (n5 hm g5)
        refine .br (fun g6 => .skip ?_) fun g6 => tail0 rfl (n6 g6)
        have h0 : 0 ≤ bd := by simpa using g1
        refine .br (fun g7 => .skip ?_) fun g7 => .skip (.brF g7 (tail0 rfl (hno fun _ _ b hb => ?_)))
        rotate_left
        · have := (List.getElem?_eq_some_iff.1 hb).1
          simp only [decide_eq_false_iff_not] at g7
          omega
        have h1 : bd < (f.BDs.length : Int) := by simpa using g7
        have hkind : x.Kind = 1 := by simpa using g3
        have hx : AskP x := ⟨hkind, (hq hkind).1 (beqI g2), by simpa using g4, by rw [← hm]; simpa using g5, by simpa using g6⟩
        obtain ⟨b, hb, hg⟩ := idx_at f.BDs eBD 6 bd h0 h1
        have tails : ∀ (hgate : ¬ (b.Gateway ≠ 0 ∧ x.ARP.TargetIP = b.Gateway)) (hs1 : s = true), (t = false ∧ r = (zeroF, false)) ∨ (∃ k, k ∈ known ∧ hitS bd x.ARP k = true ∧ t = true ∧ r = (replyS k.MAC x.ARP, true)) := by
          intro hgate hs1
          cases hf : known.find? (hitS bd x.ARP) with
          | none =>
            refine .inl ⟨?_, hno fun _ _ b' hb' => ?_⟩
            · cases t with
              | false => rfl
              | true =>
                obtain ⟨k, hkm, hp⟩ := ht.1 rfl
                have := List.find?_eq_none.1 hf k hkm
                exact absurd hp this
            · obtain rfl : b' = b := Option.some.inj (hb'.symm.trans hg)
              rw [answerS, if_neg hgate, if_neg (by show ¬ s = false; rw [hs1]; decide), hf]
          | some k =>
            have hkm := List.mem_of_find?_eq_some hf
            have hp := List.find?_some hf
            have e : answerS (Go.L.Fabric.mk f.Leaves f.Spines f.Links f.Tenants f.BDs f.Segments f.Hosts f.Leaks f.Elect f.Horizon f.Router s f.Trees f.Timers) known b.Gateway bd x.ARP = (k.MAC, true) := by
              rw [answerS, if_neg hgate, if_neg (by show ¬ s = false; rw [hs1]; decide), hf]
            have := sup_yes hsup h0 hg hx (by rw [e])
            rw [e] at this
            exact .inr ⟨k, hkm, hp, ht.2 ⟨k, hkm, hp⟩, this⟩
        have none0 : ∀ (hgate : ¬ (b.Gateway ≠ 0 ∧ x.ARP.TargetIP = b.Gateway)) (hs1 : s = false), r = (zeroF, false) := by
          intro hgate hs1
          refine hno fun _ _ b' hb' => ?_
          obtain rfl : b' = b := Option.some.inj (hb'.symm.trans hg)
          rw [answerS, if_neg hgate, if_pos (by show s = false; exact hs1)]
        refine .op b hb (.skip (.br (fun g8 => .skip (.op b hb (.skip (.br (fun g9 => ?_) fun g9 => .skip (.brT g7 (.skip (.br (fun g10 => ?_) fun g10 => tail0 rfl (none0 ?_ g10)))))))) fun g8 => .skip (.brT g7 (.skip (.br (fun g10 => ?_) fun g10 => tail0 rfl (none0 ?_ g10))))))
        · have e : answerS (Go.L.Fabric.mk f.Leaves f.Spines f.Links f.Tenants f.BDs f.Segments f.Hosts f.Leaks f.Elect f.Horizon f.Router s f.Trees f.Timers) known b.Gateway bd x.ARP = (1577058561, true) := by
            rw [answerS, if_pos ⟨by simpa using g8, (beqI g9).symm⟩]
          have hr : r = (replyS 1577058561 x.ARP, true) := by
            have := sup_yes hsup h0 hg hx (by rw [e])
            rw [e] at this; exact this
          subst hr
          refine .skip (.brF rfl (.skip (.brF rfl (.skip (.brT g9 (.skip (.loop (fun a : Bool × Int => 0 ≤ a.2 ∧ a.2 ≤ (known.length : Int) ∧ a.1 = true) (fun a => ((known.length : Int) - a.2).toNat) (fun (u : Bool) => u = true) rfl ⟨by simp, by simp, rfl⟩ (by simp; omega) ?_ ?_)))))))
          · rintro a ha
            exact .skip (.op () rfl (.skip (.br (fun h => .skip (.brT ha.2.2 (.skip (.done rfl (found_step' hk ha (by simpa using h)))))) fun h => .skip (.done rfl ha.2.2))))
          · intro u hu
            refine .skip (.brT hu (.skip ?_))
            refine .call _ (ref07_at 6000 _) fun (q2 : Int) hq2 => .skip ?_
            refine .brT (by rw [(hq2 rfl).2 (reply_fr (by decide) (by decide) hx.fr)]; rfl) (.skip ?_)
            refine .brT (by simp [replyS]) (.skip ?_)
            refine .brT rfl (.skip ?_)
            refine .brT (by simp [replyS]) (.skip ?_)
            exact .done rfl rfl
        · have hgate : ¬ (b.Gateway ≠ 0 ∧ x.ARP.TargetIP = b.Gateway) := fun h => by rw [h.2] at g9; simp at g9
          rcases tails hgate g10 with ⟨rfl, hr⟩ | ⟨k, hkm, hp, rfl, hr⟩
          · exact tail0 rfl hr
          · subst hr
            have hkv := hmac k hkm
            simp only [hitS, Bool.and_eq_true, beq_iff_eq] at hp
            refine .skip (.brF rfl (.skip (.brF rfl (.skip (.brF g9 (.skip (.loop (foundI known bd x.ARP.TargetIP k.MAC) (fun a => ((known.length : Int) - a.2).toNat) (fun (u : Bool) => u = true) rfl ⟨by simp, by simp, fun ⟨j, z, hj, _⟩ => by simp at hj⟩ (by simp; omega) ?_ ?_)))))))
            · rintro a ha
              refine .skip (.op () rfl (.skip (.br (fun h => .skip ?_) fun h => .skip (.done rfl (ha.2.2 ?_)))))
              · have hlt : a.2 < (known.length : Int) := by simpa using h
                obtain ⟨y, hy, hgy⟩ := idx_at known eKnown 3 a.2 ha.1 hlt
                refine .br (fun h1 => .skip (.done rfl (found_step hk ha hlt hgy fun _ => rfl))) fun h1 => .skip (.brT (by rw [g9]; rfl) (.skip (.op y hy (.skip (.br (fun k1 => .skip (.op y hy (.skip (.br (fun k2 => .skip (.op y hy (.skip (.done rfl (found_step hk ha hlt hgy ?_))))) fun k2 => .skip (.done rfl (found_step hk ha hlt hgy ?_)))))) fun k1 => .skip (.done rfl (found_step hk ha hlt hgy ?_)))))))
                · rintro (h | h)
                  · rw [h] at h1; cases h1
                  · simpa [replyS] using h.2.2
                · rintro (h | h)
                  · rw [h] at h1; cases h1
                  · rw [h.2.1] at k2; simp at k2
                · rintro (h | h)
                  · rw [h] at h1; cases h1
                  · rw [h.1] at k1; simp at k1
              · have hge : ¬ a.2 < (known.length : Int) := by simpa using h
                obtain ⟨j, hj, rfl⟩ := List.getElem_of_mem hkm
                exact ⟨j, _, by omega, List.getElem?_eq_getElem hj, hp.1, hp.2.1, rfl⟩
            · intro u hu
              refine .skip (.brT hu (.skip ?_))
              refine .call _ (ref07_at 6000 _) fun (q2 : Int) hq2 => .skip ?_
              refine .brT (by rw [(hq2 rfl).2 (reply_fr hkv.1 hkv.2 hx.fr)]; rfl) (.skip ?_)
              refine .brT (by simp [replyS]) (.skip ?_)
              refine .brT rfl (.skip ?_)
              refine .brT (by simp [replyS]) (.skip ?_)
              exact .done rfl rfl
        · exact fun h => by rw [h.2] at g9; simp at g9
        · have hgate : ¬ (b.Gateway ≠ 0 ∧ x.ARP.TargetIP = b.Gateway) := fun h => h.1 (by simpa using g8)
          rcases tails hgate g10 with ⟨rfl, hr⟩ | ⟨k, hkm, hp, rfl, hr⟩
          · exact tail0 rfl hr
          · subst hr
            have hkv := hmac k hkm
            simp only [hitS, Bool.and_eq_true, beq_iff_eq] at hp
            refine .skip (.brF rfl (.skip (.brF rfl (.skip (.loop (foundI known bd x.ARP.TargetIP k.MAC) (fun a => ((known.length : Int) - a.2).toNat) (fun (u : Bool) => u = true) rfl ⟨by simp, by simp, fun ⟨j, z, hj, _⟩ => by simp at hj⟩ (by simp; omega) ?_ ?_)))))
            · rintro a ha
              refine .skip (.op () rfl (.skip (.br (fun h => .skip ?_) fun h => .skip (.done rfl (ha.2.2 ?_)))))
              · have hlt : a.2 < (known.length : Int) := by simpa using h
                obtain ⟨y, hy, hgy⟩ := idx_at known eKnown 3 a.2 ha.1 hlt
                refine .br (fun h1 => .skip (.done rfl (found_step hk ha hlt hgy fun _ => rfl))) fun h1 => .skip (.op y hy (.skip (.br (fun k1 => .skip (.op y hy (.skip (.br (fun k2 => .skip (.op y hy (.skip (.done rfl (found_step hk ha hlt hgy ?_))))) fun k2 => .skip (.done rfl (found_step hk ha hlt hgy ?_)))))) fun k1 => .skip (.done rfl (found_step hk ha hlt hgy ?_)))))
                · rintro (h | h)
                  · rw [h] at h1; cases h1
                  · simpa [replyS] using h.2.2
                · rintro (h | h)
                  · rw [h] at h1; cases h1
                  · rw [h.2.1] at k2; simp at k2
                · rintro (h | h)
                  · rw [h] at h1; cases h1
                  · rw [h.1] at k1; simp at k1
              · have hge : ¬ a.2 < (known.length : Int) := by simpa using h
                obtain ⟨j, hj, rfl⟩ := List.getElem_of_mem hkm
                exact ⟨j, _, by omega, List.getElem?_eq_getElem hj, hp.1, hp.2.1, rfl⟩
            · intro u hu
              refine .skip (.brT hu (.skip ?_))
              refine .call _ (ref07_at 6000 _) fun (q2 : Int) hq2 => .skip ?_
              refine .brT (by rw [(hq2 rfl).2 (reply_fr hkv.1 hkv.2 hx.fr)]; rfl) (.skip ?_)
              refine .brT (by simp [replyS]) (.skip ?_)
              refine .brT rfl (.skip ?_)
              refine .brT (by simp [replyS]) (.skip ?_)
              exact .done rfl rfl
        · exact fun h => h.1 (by simpa using g8)
end Go.L
