/- What answers to requests: frames, asking, answering. No conditions. -/
import Derived.Test.YtfgigcdbcbgpoaaWn
import Derived.Test.YtfgigcdbcbgpoaaLb
import Derived.Test.YtfgigcdbcbgpoaaAt
namespace Go.L
open Go.AM
set_option maxRecDepth 100000
set_option linter.unusedSimpArgs false
set_option linter.unusedVariables false
set_option linter.unusedSectionVars false
theorem beqI {a b : Int} (h : (a == b) = true) : a = b := by simpa using h
theorem nf {b : Bool} (h : (!b) = false) : b = true := by simpa using h
theorem nt {b : Bool} (h : (!b) = true) : b = false := by simpa using h
theorem mc_at (n : Nat) (m : Int) : At (c_addr_Multicast.S n m) fun (b : Bool) => b = castM m := At.eq fun k => addr_Multicast n m k
theorem bit_one (x : Int) : ((Go.IntKind.wrap .u64 (((BitVec.ofInt 64 x) &&& (BitVec.ofInt 64 1)).toNat : Int)) == (1 : Int)) = ((Go.IntKind.wrap .u64 (((BitVec.ofInt 64 x) &&& (BitVec.ofInt 64 1)).toNat : Int)) != 0) := by
  have h1 : ((BitVec.ofInt 64 x) &&& (BitVec.ofInt 64 1)).toNat ≤ 1 := by
    rw [BitVec.toNat_and]
    have : (BitVec.ofInt 64 1).toNat = 1 := by decide
    rw [this]; exact Nat.and_le_right
  generalize ((BitVec.ofInt 64 x) &&& (BitVec.ofInt 64 1)).toNat = m at *
  have : m = 0 ∨ m = 1 := by omega
  rcases this with rfl | rfl <;> decide
theorem ref_Multicast {β : Type} (n : Nat) (m : Int) (k : c_ref01_Multicast.sh.El → Option β) : (c_ref01_Multicast.S n m).bind k = k (castM m) := by
  have : c_ref01_Multicast.S n m = some (castM m) := by
    show (g_ref01_Multicast m).run n = _
    have e := bit_one (Int.fdiv m ((2 : Int) ^ (min (Int.toNat (40 : Int)) (Go.IntKind.bits .u64))))
    simp only [g_ref01_Multicast, G.run, tsOk, castM]
    rw [← e]
    by_cases h : m ≤ 281474976710655
    · simp only [h, decide_true, if_true, Bool.true_and]; rfl
    · simp only [h, decide_false, if_false, Bool.false_and, Bool.false_eq_true]; rfl
  rw [this]; rfl
theorem rmc_at (n : Nat) (m : Int) : At (c_ref01_Multicast.S n m) fun (b : Bool) => b = castM m := At.eq fun k => ref_Multicast n m k
/-- A frame with a request or a reply is well made. -/
structure FrA (x : Frame) : Prop where
  src : x.Src ≤ 281474976710655
  dst : x.Dst ≤ 281474976710655
  one : castM x.Src = false
  i1 : x.IP.Src = 0
  i2 : x.IP.Dst = 0
  i3 : x.IP.TTL = 0
  i4 : x.IP.Proto = 0
  i5 : x.IP.SrcPort = 0
  i6 : x.IP.DstPort = 0
  op1 : 1 ≤ x.ARP.Op
  op2 : x.ARP.Op ≤ 2
  sm : x.ARP.SenderMAC ≤ 281474976710655
  tm : x.ARP.TargetMAC ≤ 281474976710655
theorem ported_at (n : Nat) (m : Int) : At (c_packet_Ported.S n m) fun (b : Bool) => b = (m == 6 || m == 17) := by
  refine (?_ : AtG n (g_packet_Ported m) _)
  unfold g_packet_Ported
  refine .skip (.br (fun h => .skip (.done rfl ?_)) fun h => .skip (.done rfl ?_))
  · simp [h]
  · simp [h]
theorem rported_at (n : Nat) (m : Int) : At (c_ref07_Ported.S n m) fun (b : Bool) => b = (m == 6 || m == 17) := by
  refine (?_ : AtG n (g_ref07_Ported m) _)
  unfold g_ref07_Ported
  refine .skip (.br (fun h => .skip (.done rfl ?_)) fun h => .skip (.done rfl ?_))
  · simp [h]
  · simp [h]
theorem arp_at (n : Nat) (a : ARP) : At (c_packet_checkARP.S n a) fun (r : Int) => r = 0 ↔ (1 ≤ a.Op ∧ a.Op ≤ 2 ∧ a.SenderMAC ≤ 281474976710655 ∧ a.TargetMAC ≤ 281474976710655) := by
  refine (?_ : AtG n (g_packet_checkARP a) _)
  unfold g_packet_checkARP
  refine .skip (.br (fun h1 => .skip (.done rfl ?_)) fun h1 => .skip (.br (fun h2 => .skip (.done rfl ?_)) fun h2 => .skip (.br (fun h3 => .skip (.done rfl ?_)) fun h3 => .skip (.br (fun h4 => .skip (.done rfl ?_)) fun h4 => .skip (.done rfl ?_)))))
  all_goals simp only [decide_eq_true_eq, decide_eq_false_iff_not] at *
  all_goals (constructor <;> intro h <;> first | omega | trivial | (refine ⟨?_, ?_, ?_, ?_⟩ <;> omega))
theorem ip_at (n : Nat) (a : Head) : At (c_packet_checkIP.S n a) fun (_ : Int) => True := by
  refine (?_ : AtG n (g_packet_checkIP a) _)
  unfold g_packet_checkIP
  repeat' first | exact AtG.done rfl trivial | refine AtG.skip ?_ | refine AtG.br (fun _ => ?_) (fun _ => ?_) | refine AtG.call _ (ported_at n _) fun _ _ => ?_
theorem FrA.arp {x : Frame} (h : FrA x) : 1 ≤ x.ARP.Op ∧ x.ARP.Op ≤ 2 ∧ x.ARP.SenderMAC ≤ 281474976710655 ∧ x.ARP.TargetMAC ≤ 281474976710655 := ⟨h.op1, h.op2, h.sm, h.tm⟩
theorem packet_at (n : Nat) (x : Frame) : At (c_packet_Check.S n x) fun (r : Int) => x.Kind = 1 → (r = 0 ↔ FrA x) := by
  refine (?_ : AtG n (g_packet_Check x) _)
  unfold g_packet_Check
  repeat' first
    | refine AtG.done rfl ?_
    | refine AtG.skip ?_
    | refine AtG.br (fun _ => ?_) (fun _ => ?_)
    | refine AtG.call _ (mc_at n _) fun _ _ => ?_
    | refine AtG.call _ (arp_at n _) fun _ _ => ?_
    | refine AtG.call _ (ip_at n _) fun _ _ => ?_
  all_goals first
    | (exfalso; simp_all; done)
    | (intro hk; exfalso; simp_all; done)
    | (intro hk
       constructor
       · intro h0
         first
           | (exfalso; simp_all; done)
           | (refine ⟨?_, ?_, ?_, ?_, ?_, ?_, ?_, ?_, ?_, ?_, ?_, ?_, ?_⟩ <;> first | (simp_all; done) | (simp_all; omega))
       · intro hf
         have h1 := hf.src
         have h2 := hf.dst
         have h3 := hf.one
         have h4 := hf.arp
         have h5 := hf.i1
         have h6 := hf.i2
         have h7 := hf.i3
         have h8 := hf.i4
         have h9 := hf.i5
         have h10 := hf.i6
         first
           | (simp_all; done)
           | (simp_all; omega))
theorem ref07_at (n : Nat) (x : Frame) : At (c_ref07_Check.S n x) fun (r : Int) => x.Kind = 1 → (r = 0 ↔ FrA x) := by
  refine (?_ : AtG n (g_ref07_Check x) _)
  unfold g_ref07_Check
  repeat' first
    | refine AtG.done rfl ?_
    | refine AtG.skip ?_
    | refine AtG.br (fun _ => ?_) (fun _ => ?_)
    | refine AtG.call _ (rmc_at n _) fun _ _ => ?_
    | refine AtG.call _ (rported_at n _) fun _ _ => ?_
  all_goals first
    | (exfalso; simp_all; done)
    | (intro hk; exfalso; simp_all; done)
    | (intro hk
       constructor
       · intro h0
         first
           | (exfalso; simp_all; done)
           | (refine ⟨?_, ?_, ?_, ?_, ?_, ?_, ?_, ?_, ?_, ?_, ?_, ?_, ?_⟩ <;> first | (simp_all; done) | (simp_all; omega))
       · intro hf
         have h1 := hf.src
         have h2 := hf.dst
         have h3 := hf.one
         have h4 := hf.arp
         have h5 := hf.i1
         have h6 := hf.i2
         have h7 := hf.i3
         have h8 := hf.i4
         have h9 := hf.i5
         have h10 := hf.i6
         first
           | (simp_all; done)
           | (simp_all; omega))
/-- A request that may be answered. -/
structure AskP (x : Frame) : Prop where
  kind : x.Kind = 1
  fr : FrA x
  op : x.ARP.Op = 1
  sm : castM x.ARP.SenderMAC = false
  ip : x.ARP.SenderIP ≠ x.ARP.TargetIP
theorem asks_at (n : Nat) (x : Frame) : At (c_neigh_asks.S n x) fun (b : Bool) => b = true ↔ AskP x := by
  refine (?_ : AtG n (g_neigh_asks x) _)
  unfold g_neigh_asks
  refine .skip (.call _ (packet_at n x) fun (r : Int) hr => .skip (.br (fun h1 => .skip (.br (fun h2 => .skip (.br (fun h3 => .skip (.call _ (mc_at n _) fun (b : Bool) hb => .skip (.br (fun h4 => .skip (.done rfl ?_)) fun h4 => .skip (.done rfl ?_)))) fun h3 => .skip (.done rfl ?_))) fun h2 => .skip (.done rfl ?_))) fun h1 => .skip (.done rfl ?_)))
  · have hk : x.Kind = 1 := by simpa using h2
    have hf : FrA x := (hr hk).1 (beqI h1)
    constructor
    · intro h
      exact ⟨hk, hf, by simpa using h3, by subst hb; simpa using h4, by simpa using h⟩
    · intro h
      simpa using h.ip
  · constructor
    · intro h; cases h
    · intro h
      subst hb
      rw [h.sm] at h4; cases h4
  · constructor
    · intro h; cases h
    · intro h
      rw [h.op] at h3; cases h3
  · constructor
    · intro h; cases h
    · intro h
      rw [h.kind] at h2; cases h2
  · constructor
    · intro h; cases h
    · intro h
      have e : (r == (0 : Int)) = true := by rw [(hr h.kind).2 h.fr]; rfl
      rw [e] at h1; cases h1
/-- A binding that answers. -/
def hitS (bd : Int) (a : ARP) (k : Known) : Bool := k.BD == bd && (k.IP == a.TargetIP && k.MAC != a.SenderMAC)
def answerS (f : Fabric) (known : List Known) (g : Int) (bd : Int) (a : ARP) : Int × Bool :=
  if g ≠ 0 ∧ a.TargetIP = g then (1577058561, true) else if f.Suppress = false then (0, false) else match known.find? (hitS bd a) with
    | some k => (k.MAC, true)
    | none => (0, false)
theorem idx_at {X : Type} (l : List X) (enc : X → List AVal) (m : Nat) (i : Int) (h0 : 0 ≤ i) (h1 : i < (l.length : Int)) : ∃ x, (idxO l enc m i).run = some x ∧ l[i.toNat]? = some x := by
  have h2 : i.toNat < l.length := by omega
  refine ⟨l[i.toNat], ?_, List.getElem?_eq_getElem h2⟩
  show at? l i = _
  simp [at?, h0, h2]
theorem find_at {α : Type} {p : α → Bool} {l : List α} {t : Nat} {y : α} (hy : l[t]? = some y) (hp : p y = true) (hn : ∀ j z, j < t → l[j]? = some z → p z = false) : l.find? p = some y := by
  obtain ⟨ht, he⟩ := List.getElem?_eq_some_iff.1 hy
  rw [List.find?_eq_some_iff_getElem]
  refine ⟨hp, t, ht, he, fun j hj => ?_⟩
  rw [hn j l[j] hj (List.getElem?_eq_getElem (by omega))]; rfl
theorem find_non {α : Type} {p : α → Bool} {l : List α} (hn : ∀ (j : Nat) z, l[j]? = some z → p z = false) : l.find? p = none := by
  rw [List.find?_eq_none]
  intro x hx
  obtain ⟨j, hj, he⟩ := List.getElem_of_mem hx
  rw [hn j x (by rw [List.getElem?_eq_getElem hj, he])]; simp
theorem answer_at (n : Nat) (f : Fabric) (known : List Known) (bd : Int) (a : ARP) (b : BD) (h0 : 0 ≤ bd) (h1 : bd < (f.BDs.length : Int)) (hb : f.BDs[bd.toNat]? = some b) (hk : known.length ≤ 4000) (hn : 5000 ≤ n) :
    At (c_neigh_answer.S n (f, known, bd, a)) fun (r : Prod Int Bool) => r = answerS f known b.Gateway bd a := by
  refine (?_ : AtG n (g_neigh_answer f known bd a) _)
  unfold g_neigh_answer
  obtain ⟨b', hb', hg'⟩ := idx_at f.BDs eBD 6 bd h0 h1
  obtain rfl : b' = b := Option.some.inj (hg'.symm.trans hb)
  refine .skip (.op b' hb' (.skip (.br (fun h2 => .skip (.br (fun h3 => .skip (.done rfl ?_)) fun h3 => .skip ?_)) fun h2 => .skip ?_)))
  · rw [answerS, if_pos ⟨by simpa using h2, by simpa using h3⟩]
  all_goals
    have hne : ¬ (b'.Gateway ≠ 0 ∧ a.TargetIP = b'.Gateway) := by
      rintro ⟨q1, q2⟩
      first
        | (simp [q1] at h2; done)
        | (simp [q2] at h3; done)
    refine .br (fun h4 => .skip (.done rfl ?_)) fun h4 => .skip (.op () rfl (.skip (.loop (fun (i : Int) => 0 ≤ i ∧ i ≤ (known.length : Int) ∧ ∀ (j : Nat) z, j < i.toNat → known[j]? = some z → hitS bd a z = false) (fun i => ((known.length : Int) - i).toNat)
      (fun (s : Int ⊕ Unit) => (∃ k, s = .inl k.MAC ∧ known.find? (hitS bd a) = some k) ∨ (s = .inr () ∧ known.find? (hitS bd a) = none)) rfl ⟨by simp, by simp, fun j z hj => by simp at hj⟩ ?_ ?_ ?_)))
    · rw [answerS, if_neg hne, if_pos (by simpa using h4)]
    · simp; omega
    · rintro i ⟨g0, g1, g2⟩
      refine .skip (.br (fun h => .skip ?_) fun h => .skip (.done rfl ?_))
      · simp only [decide_eq_true_eq] at h
        obtain ⟨y, hy, hg⟩ := idx_at known eKnown 3 i g0 h
        have step : hitS bd a y = false → RoundAt (fun (i : Int) => 0 ≤ i ∧ i ≤ (known.length : Int) ∧ ∀ (j : Nat) z, j < i.toNat → known[j]? = some z → hitS bd a z = false) (fun i => ((known.length : Int) - i).toNat)
            (fun (s : Int ⊕ Unit) => (∃ k, s = .inl k.MAC ∧ known.find? (hitS bd a) = some k) ∨ (s = .inr () ∧ known.find? (hitS bd a) = none)) i (.inl (Go.IntKind.wrap .i64 (i + 1))) := by
          intro hm
          rw [wrap_i64 (by omega) (by omega)]
          refine ⟨⟨by omega, by omega, fun j z hj hz => ?_⟩, by (try simp only); omega⟩
          by_cases he : j = i.toNat
          · subst he
            rw [hg] at hz
            cases hz; exact hm
          · exact g2 j z (by omega) hz
        refine .op y hy (.skip (.br (fun k1 => .skip (.br (fun k2 => .skip (.br (fun k3 => .skip (.done rfl ?_)) fun k3 => .skip (.done rfl (step ?_)))) fun k2 => .skip (.done rfl (step ?_)))) fun k1 => .skip (.done rfl (step ?_))))
        · exact .inl ⟨y, rfl, find_at hg (by simp [hitS, k1, k2, k3]) g2⟩
        · simp [hitS, k3]
        · simp [hitS, k2]
        · simp [hitS, k1]
      · simp only [decide_eq_false_iff_not] at h
        refine .inr ⟨rfl, find_non fun j z hz => g2 j z ?_ hz⟩
        have := (List.getElem?_eq_some_iff.1 hz).1
        omega
    · rintro s (⟨k, rfl, hf⟩ | ⟨rfl, hf⟩)
      · refine .done rfl ?_
        rw [answerS, if_neg hne, if_neg (by simpa using h4), hf]
      · refine .skip (.done rfl ?_)
        rw [answerS, if_neg hne, if_neg (by simpa using h4), hf]
/-- A frame of zeros. -/
def zeroF : Frame := Go.L.Frame.mk (0 : Int) (0 : Int) (0 : Int) (Go.L.ARP.mk (0 : Int) (0 : Int) (0 : Int) (0 : Int) (0 : Int)) (Go.L.Head.mk (0 : Int) (0 : Int) (0 : Int) (0 : Int) (0 : Int) (0 : Int)) (0 : Int)
def replyS (m : Int) (a : ARP) : Frame := Go.L.Frame.mk m a.SenderMAC 1 (Go.L.ARP.mk 2 m a.TargetIP a.SenderMAC a.SenderIP) (Go.L.Head.mk (0 : Int) (0 : Int) (0 : Int) (0 : Int) (0 : Int) (0 : Int)) (0 : Int)
theorem sender_at (n : Nat) (a b : Int) : At (c_neigh_sender.S n (a, b)) fun (r : Prod Int Int) => r = (a, b) := ⟨_, rfl, rfl⟩
theorem target_at (n : Nat) (a b : Int) : At (c_neigh_target.S n (a, b)) fun (r : Prod Int Int) => r = (a, b) := ⟨_, rfl, rfl⟩
theorem exists_at (n : Nat) (f : Fabric) (bd : Int) (hn : 5000 ≤ n) (hs : Small f) (hc : (checkS f).1 = 0) : At (c_neigh_exists.S n (f, bd)) fun (b : Bool) => b = true ↔ 0 ≤ bd ∧ bd < (f.BDs.length : Int) := by
  refine (?_ : AtG n (g_neigh_exists f bd) _)
  unfold g_neigh_exists
  refine .skip (.call _ (At.eq fun k => tenant_Check n hn f hs k) fun r hr => .skip ?_)
  subst hr
  refine .br (fun _ => .skip (.br (fun h => .skip (.op () rfl (.skip (.done rfl ?_)))) fun h => .skip (.done rfl ?_))) fun h => ?_
  · simp only [ge_iff_le, decide_eq_true_eq] at h ⊢
    exact ⟨fun q => ⟨h, q⟩, fun q => q.2⟩
  · simp only [ge_iff_le, decide_eq_false_iff_not] at h
    exact ⟨fun q => (by cases q), fun q => absurd q.1 h⟩
  · rw [hc] at h; cases h
/-- What Suppress answers. -/
theorem suppress_at (n : Nat) (f : Fabric) (known : List Known) (bd : Int) (x : Frame) (hn : 5000 ≤ n) (hs : Small f) (hc : (checkS f).1 = 0) (hk : known.length ≤ 4000) :
    At (c_neigh_Suppress.S n (f, known, bd, x)) fun (r : Prod Frame Bool) =>
      (∃ b, 0 ≤ bd ∧ f.BDs[bd.toNat]? = some b ∧ AskP x ∧ (answerS f known b.Gateway bd x.ARP).2 = true ∧ r = (replyS (answerS f known b.Gateway bd x.ARP).1 x.ARP, true)) ∨
      ((∀ b, 0 ≤ bd → f.BDs[bd.toNat]? = some b → AskP x → (answerS f known b.Gateway bd x.ARP).2 = false) ∧ r = (zeroF, false)) := by
  refine (?_ : AtG n (g_neigh_Suppress f known bd x) _)
  unfold g_neigh_Suppress
  refine .skip (.call _ (exists_at n f bd hn hs hc) fun (e : Bool) he => .skip (.br (fun h1 => .skip (.done rfl ?_)) fun h1 => .skip ?_))
  · refine .inr ⟨fun b h0 hb => ?_, rfl⟩
    have hlt := (List.getElem?_eq_some_iff.1 hb).1
    have : e = true := he.2 ⟨h0, by omega⟩
    rw [this] at h1; cases h1
  · have hin : 0 ≤ bd ∧ bd < (f.BDs.length : Int) := he.1 (nf h1)
    obtain ⟨b, -, hb⟩ := idx_at f.BDs eBD 6 bd hin.1 hin.2
    refine .call _ (asks_at n x) fun (a : Bool) ha => .skip (.br (fun h2 => .skip (.done rfl ?_)) fun h2 => .skip ?_)
    · refine .inr ⟨fun b _ _ hx => ?_, rfl⟩
      have : a = true := ha.2 hx
      rw [this] at h2; cases h2
    · have hask : AskP x := ha.1 (nf h2)
      refine .call _ (answer_at n f known bd x.ARP b hin.1 hin.2 hb hk hn) fun r hr => .skip ?_
      subst hr
      refine .br (fun h3 => .skip (.done rfl ?_)) fun h3 => .skip ?_
      · refine .inr ⟨fun b' _ hb' _ => ?_, rfl⟩
        obtain rfl : b' = b := Option.some.inj (hb'.symm.trans hb)
        simpa using h3
      · refine .call _ (sender_at n _ _) fun s1 e1 => .skip (.call _ (target_at n _ _) fun s2 e2 => ?_)
        subst e1 e2
        refine .skip (.inl (.skip (.unroll (.skip (.inl (.skip (.tidy rfl (.inl (.skip (.inl (.skip (.tidy rfl (.inl (.skip (.tidy rfl (.inl (.skip (.done rfl ?_))))))))))))))))))
        exact .inl ⟨b, hin.1, hb, hask, by simpa using h3, rfl⟩
end Go.L
