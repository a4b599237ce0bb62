import Derived.Test.Qxb6500570aGreatPq
/- Plain: levels of reading: what they are, that they are one; by rounds. -/
namespace Go.Proofs.Qxb6500570aGreat
set_option linter.unusedVariables false
set_option linter.unusedSimpArgs false

/-- c reads d. -/
abbrev rdB (r : Nat → Nat) (c d : Nat) : Prop := d < 24 ∧ (r c).testBit d = true
/-- A settled cell. -/
def SetL (r : Nat → Nat) (L : Nat → Int) (c : Nat) : Prop := 0 ≤ L c ∧ (∀ d, rdB r c d → 0 ≤ L d ∧ L d < L c) ∧ (L c = 0 ∨ ∃ d, rdB r c d ∧ L d + 1 = L c)
def CycL (r : Nat → Nat) (L : Nat → Int) (c : Nat) : Prop := L c = -1 ∧ ∃ d, rdB r c d ∧ L d = -1
/-- Levels. -/
def LvOK (r : Nat → Nat) (L : Nat → Int) : Prop := ∀ c, c < 24 → SetL r L c ∨ CycL r L c

theorem lv_half {r : Nat → Nat} {L M : Nat → Int} (h : LvOK r L) (g : LvOK r M) : ∀ (n c : Nat), c < 24 → 0 ≤ L c → L c ≤ n → M c = L c := by
  intro n
  induction n using Nat.strongRecOn with
  | _ n ih =>
    intro c hc h0 hn
    have hS : SetL r L c := by
      rcases h c hc with q | q
      · exact q
      · exact absurd q.1 (by omega)
    have hd : ∀ d, rdB r c d → M d = L d := by
      intro d hd
      have := hS.2.1 d hd
      have hlt : (L d).toNat < n := by omega
      exact ih _ hlt d hd.1 this.1 (by omega)
    rcases g c hc with q | q
    · obtain ⟨q1, q2, q3⟩ := q
      rcases hS.2.2 with e | ⟨d, hrd, e⟩
      · rcases q3 with e' | ⟨d', hrd', e'⟩
        · rw [e, e']
        · have := hd d' hrd'
          have := hS.2.1 d' hrd'
          omega
      · have h1 := hd d hrd
        have h2 := q2 d hrd
        rcases q3 with e' | ⟨d', hrd', e'⟩
        · omega
        · have := hd d' hrd'
          have := hS.2.1 d' hrd'
          omega
    · obtain ⟨d, hrd, hd1⟩ := q.2
      have := hd d hrd
      have := (hS.2.1 d hrd).1
      omega
/-- The levels are one. -/
theorem lv_uniq {r : Nat → Nat} {L M : Nat → Int} (h : LvOK r L) (g : LvOK r M) (c : Nat) (hc : c < 24) : M c = L c := by
  rcases h c hc with q | q
  · exact lv_half h g (L c).toNat c hc q.1 (by have := q.1; omega)
  · rcases g c hc with p | p
    · have := lv_half g h (M c).toNat c hc p.1 (by have := p.1; omega)
      rw [this]
    · rw [p.1, q.1]

/-- Levels known before round k. -/
structure RdI (r : Nat → Nat) (L : Nat → Int) (snd : Nat) (k : Nat) : Prop where
  lt : snd < 2 ^ 24
  bd : ∀ c, c < 24 → L c = -1 ∨ (0 ≤ L c ∧ L c < k)
  sd : ∀ c, c < 24 → (snd.testBit c = true ↔ L c ≠ -1)
  st : ∀ c, c < 24 → L c ≠ -1 → SetL r L c
  un : 1 ≤ k → ∀ c, c < 24 → L c = -1 → ∃ d, rdB r c d ∧ (L d = -1 ∨ L d = (k : Int) - 1)
  cn : (∀ c, c < 24 → L c = -1 → ∃ d, rdB r c d ∧ L d = -1) ∨ k ≤ cntN snd 24
theorem RdI.start (r : Nat → Nat) {L : Nat → Int} (h : ∀ c, c < 24 → L c = -1) : RdI r L 0 0 :=
  ⟨by decide, fun c hc => .inl (h c hc), fun c hc => by rw [h c hc]; simp, fun c hc hn => absurd (h c hc) hn, fun h => absurd h (by omega), .inr (Nat.zero_le _)⟩
/-- One round: L' and snd' as the round leaves them. -/
theorem RdI.round {r : Nat → Nat} {L L' : Nat → Int} {snd snd' k : Nat} (h : RdI r L snd k) (hr : ∀ c, c < 24 → r c < 2 ^ 24)
    (hLy : ∀ c, c < 24 → L c < 0 → (∀ d, rdB r c d → snd.testBit d = true) → L' c = (k : Int)) (hLn : ∀ c, c < 24 → ¬ (L c < 0 ∧ ∀ d, rdB r c d → snd.testBit d = true) → L' c = L c)
    (hs : snd' < 2 ^ 24) (hsb : ∀ c, c < 24 → (snd'.testBit c = true ↔ snd.testBit c = true ∨ (L c < 0 ∧ ∀ d, rdB r c d → snd.testBit d = true))) : RdI r L' snd' (k + 1) := by
  have hold : ∀ c, c < 24 → L c ≠ -1 → L' c = L c := by
    intro c hc hn
    refine hLn c hc ?_
    rintro ⟨a, -⟩
    rcases h.bd c hc with q | q <;> omega
  have hnew : ∀ c, c < 24 → L c = -1 → (∀ d, rdB r c d → snd.testBit d = true) → L' c = k := by
    intro c hc h1 h2
    exact hLy c hc (by omega) h2
  have hno : ∀ c, c < 24 → L c = -1 → ¬ (∀ d, rdB r c d → snd.testBit d = true) → L' c = -1 := by
    intro c hc h1 h2
    rw [hLn c hc (fun q => h2 q.2), h1]
  have hcs : ∀ c, c < 24 → (L c ≠ -1 ∧ L' c = L c) ∨ (L c = -1 ∧ (∀ d, rdB r c d → snd.testBit d = true) ∧ L' c = k) ∨ (L c = -1 ∧ (∃ d, rdB r c d ∧ L d = -1) ∧ L' c = -1) := by
    intro c hc
    by_cases h1 : L c = -1
    · by_cases h2 : ∀ d, rdB r c d → snd.testBit d = true
      · exact .inr (.inl ⟨h1, h2, hnew c hc h1 h2⟩)
      · refine .inr (.inr ⟨h1, ?_, hno c hc h1 h2⟩)
        obtain ⟨d, hd⟩ := Classical.not_forall.1 h2
        obtain ⟨hd1, hd2⟩ := Classical.not_imp.1 hd
        exact ⟨d, hd1, Classical.byContradiction (fun hn => hd2 ((h.sd d hd1.1).2 hn))⟩
    · exact .inl ⟨h1, hold c hc h1⟩
  have hbd := h.bd
  refine ⟨hs, fun c hc => ?_, fun c hc => ?_, fun c hc hn => ?_, fun _ c hc hn => ?_, ?_⟩
  · rcases hcs c hc with ⟨a, b⟩ | ⟨a, b, e⟩ | ⟨a, b, e⟩
    · rcases hbd c hc with q | q
      · exact absurd q a
      · right; omega
    · right; omega
    · exact .inl e
  · rw [hsb c hc, h.sd c hc]
    rcases hcs c hc with ⟨a, b⟩ | ⟨a, b, e⟩ | ⟨a, ⟨d, hd, hd1⟩, e⟩
    · rw [b]
      exact ⟨fun _ => a, fun _ => .inl a⟩
    · exact ⟨fun _ => by omega, fun _ => .inr ⟨by omega, b⟩⟩
    · refine ⟨fun q => ?_, fun q => absurd e q⟩
      rcases q with q | q
      · exact absurd a q
      · exact absurd hd1 ((h.sd d hd.1).1 (q.2 d hd))
  · have keep : ∀ d, d < 24 → L d ≠ -1 → L' d = L d := hold
    rcases hcs c hc with ⟨a, b⟩ | ⟨a, b, e⟩ | ⟨a, b, e⟩
    · obtain ⟨s1, s2, s3⟩ := h.st c hc a
      refine ⟨by omega, fun d hd => ?_, ?_⟩
      · have := s2 d hd
        rw [keep d hd.1 (by omega), b]
        exact this
      · rcases s3 with s3 | ⟨d, hd, s3⟩
        · left; omega
        · right
          have := s2 d hd
          exact ⟨d, hd, by rw [keep d hd.1 (by omega)]; omega⟩
    · refine ⟨by omega, fun d hd => ?_, ?_⟩
      · have hnd := (h.sd d hd.1).1 (b d hd)
        rcases hbd d hd.1 with q | q
        · exact absurd q hnd
        · rw [keep d hd.1 hnd, e]; omega
      · by_cases hk : k = 0
        · left; omega
        · right
          obtain ⟨d, hd, hq⟩ := h.un (by omega) c hc a
          have hnd := (h.sd d hd.1).1 (b d hd)
          refine ⟨d, hd, ?_⟩
          rw [keep d hd.1 hnd, e]
          rcases hq with q | q
          · exact absurd q hnd
          · omega
    · exact absurd e hn
  · rcases hcs c hc with ⟨a, b⟩ | ⟨a, b, e⟩ | ⟨a, ⟨d, hd, hd1⟩, e⟩
    · rw [b] at hn; exact absurd hn a
    · omega
    · refine ⟨d, hd, ?_⟩
      rcases hcs d hd.1 with ⟨a', b'⟩ | ⟨a', b', e'⟩ | ⟨a', b', e'⟩
      · exact absurd hd1 a'
      · right; omega
      · exact .inl e'
  · by_cases hany : ∃ c, c < 24 ∧ L c = -1 ∧ ∀ d, rdB r c d → snd.testBit d = true
    · obtain ⟨c, hc, hc1, hc2⟩ := hany
      rcases h.cn with hq | hq
      · obtain ⟨d, hd, hd1⟩ := hq c hc hc1
        exact absurd hd1 ((h.sd d hd.1).1 (hc2 d hd))
      · right
        have hlt : cntN snd 24 < cntN snd' 24 := by
          refine cnt_more (n := 24) (fun j hj hb => (hsb j hj).2 (.inl hb)) hc ?_ ((hsb c hc).2 (.inr ⟨by omega, hc2⟩))
          cases hb : snd.testBit c with
          | false => rfl
          | true => exact absurd hc1 ((h.sd c hc).1 hb)
        omega
    · left
      intro c hc hn
      rcases hcs c hc with ⟨a, b⟩ | ⟨a, b, e⟩ | ⟨a, ⟨d, hd, hd1⟩, e⟩
      · rw [b] at hn; exact absurd hn a
      · omega
      · refine ⟨d, hd, ?_⟩
        rcases hcs d hd.1 with ⟨a', b'⟩ | ⟨a', b', e'⟩ | ⟨a', b', e'⟩
        · exact absurd hd1 a'
        · exact absurd ⟨d, hd.1, a', b'⟩ hany
        · exact e'
theorem RdI.done {r : Nat → Nat} {L : Nat → Int} {snd : Nat} (h : RdI r L snd 24) : LvOK r L := by
  intro c hc
  by_cases hn : L c = -1
  · right
    refine ⟨hn, ?_⟩
    rcases h.cn with hq | hq
    · exact hq c hc hn
    · have hf : cntN snd 24 = 24 := Nat.le_antisymm (cntN_le snd 24) hq
      have := cnt_full hf c hc
      exact absurd hn ((h.sd c hc).1 this)
  · exact .inl (h.st c hc hn)

end Go.Proofs.Qxb6500570aGreat
