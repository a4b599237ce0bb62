import Derived.Test.Qxb6500570aGreatPt
import Derived.Test.Qxb6500570aGreatFv
/- Plain: levels mended by counting. -/
namespace Go.Proofs.Qxb6500570aGreat
set_option linter.unusedVariables false
set_option linter.unusedSimpArgs false

theorem SetL.congr {r : Nat → Nat} {L M : Nat → Int} {c : Nat} (h : SetL r L c) (h1 : M c = L c) (h2 : ∀ d, rdB r c d → M d = L d) : SetL r M c := by
  obtain ⟨a, b, e⟩ := h
  refine ⟨by omega, fun d hd => by rw [h2 d hd, h1]; exact b d hd, ?_⟩
  rcases e with e | ⟨d, hd, e⟩
  · left; omega
  · right; exact ⟨d, hd, by rw [h2 d hd, h1]; exact e⟩
theorem CycL.congr {r : Nat → Nat} {L M : Nat → Int} {c : Nat} (h : CycL r L c) (h1 : M c = L c) (h2 : ∀ d, rdB r c d → M d = L d) : CycL r M c := by
  obtain ⟨a, d, hd, e⟩ := h
  exact ⟨by omega, d, hd, by rw [h2 d hd]; exact e⟩
theorem and_rd {r : Nat → Nat} {c m : Nat} (h : cntN (r c &&& m) 24 = 0) {d : Nat} (hd : rdB r c d) : m.testBit d = false := by
  have := cntN_none h d hd.1
  rw [Nat.testBit_and, hd.2] at this
  simpa using this

/-- What stands outside the hanging set. -/
structure OutK (r : Nat → Nat) (h sick : Nat) (L : Nat → Int) : Prop where
  hl : h < 2 ^ 24
  sl : sick < 2 ^ 24
  cl : ∀ c, c < 24 → h.testBit c = false → ∀ d, rdB r c d → h.testBit d = false
  ok : ∀ c, c < 24 → h.testBit c = false → SetL r L c ∨ CycL r L c
  sk : ∀ c, c < 24 → (sick.testBit c = true ↔ (h.testBit c = false ∧ L c = -1))
theorem OutK.congr {r : Nat → Nat} {h sick : Nat} {L M : Nat → Int} (o : OutK r h sick L) (hM : ∀ c, c < 24 → h.testBit c = false → M c = L c) : OutK r h sick M := by
  refine ⟨o.hl, o.sl, o.cl, fun c hc hh => ?_, fun c hc => ?_⟩
  · rcases o.ok c hc hh with q | q
    · exact .inl (q.congr (hM c hc hh) (fun d hd => hM d hd.1 (o.cl c hc hh d hd)))
    · exact .inr (q.congr (hM c hc hh) (fun d hd => hM d hd.1 (o.cl c hc hh d hd)))
  · rw [o.sk c hc]
    constructor
    · rintro ⟨a, b⟩; exact ⟨a, by rw [hM c hc a]; exact b⟩
    · rintro ⟨a, b⟩; exact ⟨a, by rw [hM c hc a] at b; exact b⟩
structure KI (r : Nat → Nat) (h sick : Nat) (L : Nat → Int) (left ripe : Nat) (N : Nat → Int) : Prop where
  ll : left < 2 ^ 24
  pl : ripe < 2 ^ 24
  lh : ∀ c, c < 24 → left.testBit c = true → h.testBit c = true
  pc : ∀ c, c < 24 → ripe.testBit c = true → left.testBit c = true
  st : ∀ c, c < 24 → h.testBit c = true → left.testBit c = false → SetL r L c ∧ ∀ d, rdB r c d → left.testBit d = false
  nd : ∀ c, c < 24 → left.testBit c = true → N c = (cntN (r c &&& left) 24 : Int)
  rp : ∀ c, c < 24 → left.testBit c = true → (ripe.testBit c = true ↔ (cntN (r c &&& left) 24 = 0 ∧ r c &&& sick = 0))
theorem KI.start {r : Nat → Nat} {h sick ripe : Nat} {L N : Nat → Int} (hh : h < 2 ^ 24) (hp : ripe < 2 ^ 24) (hn : ∀ c, c < 24 → h.testBit c = true → N c = (cntN (r c &&& h) 24 : Int))
    (hr : ∀ c, c < 24 → (ripe.testBit c = true ↔ (h.testBit c = true ∧ cntN (r c &&& h) 24 = 0 ∧ r c &&& sick = 0))) : KI r h sick L h ripe N :=
  ⟨hh, hp, fun c _ q => q, fun c hc q => ((hr c hc).1 q).1, (fun c hc a b => absurd (a.symm.trans b) (by decide)), hn, fun c hc a => (hr c hc).trans ⟨fun q => q.2, fun q => ⟨a, q⟩⟩⟩
/-- One ripe cell settled. -/
theorem KI.step {r : Nat → Nat} {h sick : Nat} {L L' : Nat → Int} {left ripe ripe' d : Nat} {N N' : Nat → Int} {T : Int} (o : OutK r h sick L) (k : KI r h sick L left ripe N) (hd : d < 24) (hrd : ripe.testBit d = true)
    (hT : 0 ≤ T ∧ (∀ e, rdB r d e → L e < T) ∧ (T = 0 ∨ ∃ e, rdB r d e ∧ L e + 1 = T)) (hLd : L' d = T) (hLo : ∀ c, c < 24 → c ≠ d → L' c = L c)
    (hp : ripe' < 2 ^ 24) (hN : ∀ c, c < 24 → h.testBit c = true → N' c = N c - (if (r c).testBit d = true then 1 else 0))
    (hr : ∀ c, c < 24 → (ripe'.testBit c = true ↔ ((ripe.testBit c = true ∧ c ≠ d) ∨ (h.testBit c = true ∧ (r c).testBit d = true ∧ N' c = 0 ∧ r c &&& sick = 0)))) : OutK r h sick L' ∧ KI r h sick L' (dif left (2 ^ d)) ripe' N' := by
  have hld := k.pc d hd hrd
  have hhd := k.lh d hd hld
  obtain ⟨hc0, hs0⟩ := (k.rp d hd hld).1 hrd
  have hrdl : ∀ e, rdB r d e → left.testBit e = false := fun e he => and_rd hc0 he
  have hdd : ¬ (r d).testBit d = true := fun hq => by have := hrdl d ⟨hd, hq⟩; rw [hld] at this; cases this
  have hpos : ∀ e, rdB r d e → 0 ≤ L e := by
    intro e he
    have hne := hrdl e he
    cases hhe : h.testBit e with
    | true => exact (k.st e he.1 hhe hne).1.1
    | false =>
      rcases o.ok e he.1 hhe with q | q
      · exact q.1
      · exfalso
        have h1 := (o.sk e he.1).2 ⟨hhe, q.1⟩
        have h2 : (r d &&& sick).testBit e = true := by rw [Nat.testBit_and, he.2, h1]; rfl
        rw [hs0] at h2
        simp at h2
  have hlb : ∀ c, (dif left (2 ^ d)).testBit c = (left.testBit c && decide (c ≠ d)) := by
    intro c
    rw [dif_bit, bit_pow]
    by_cases e : c = d <;> simp [e]
  have hlb1 : ∀ c, (dif left (2 ^ d)).testBit c = true → left.testBit c = true ∧ c ≠ d := by
    intro c hc; rw [hlb] at hc; simpa using hc
  have hrl : ∀ c, c < 24 → h.testBit c = true → (r c).testBit d = true → left.testBit c = true ∧ c ≠ d := by
    intro c hc hh hq
    refine ⟨?_, fun e => hdd (by rw [← e]; rw [← e] at hq; exact hq)⟩
    cases hl : left.testBit c with
    | true => rfl
    | false =>
      have := (k.st c hc hh hl).2 d ⟨hd, hq⟩
      rw [hld] at this; cases this
  -- the counts
  have hcnt : ∀ c, c < 24 → (cntN (r c &&& left) 24 : Int) = (cntN (r c &&& dif left (2 ^ d)) 24 : Int) + (if (r c).testBit d = true then 1 else 0) := by
    intro c hc
    by_cases hq : (r c).testBit d = true
    · rw [if_pos hq]
      have := cntN_off (s := r c &&& left) (t := r c &&& dif left (2 ^ d)) (k := d) (by rw [Nat.testBit_and, hq, hld]; rfl) (fun j => by rw [Nat.testBit_and, Nat.testBit_and, hlb]; cases (r c).testBit j <;> cases left.testBit j <;> simp) (n := 24) hd
      omega
    · rw [if_neg hq]
      have := cntN_ext (s := r c &&& left) (t := r c &&& dif left (2 ^ d)) (n := 24) (fun j hj => by
        rw [Nat.testBit_and, Nat.testBit_and, hlb]
        by_cases e : j = d
        · subst e; simp [hq]
        · simp [e])
      omega
  refine ⟨o.congr (fun c hc hh => hLo c hc (fun e => by rw [e, hhd] at hh; cases hh)), ⟨dif_lt k.ll, hp, fun c hc q => k.lh c hc (hlb1 c q).1, fun c hc q => ?_, fun c hc hh hl => ?_, fun c hc hl => ?_, fun c hc hl => ?_⟩⟩
  · rw [hlb]
    rcases (hr c hc).1 q with ⟨a, b⟩ | ⟨a, b, -⟩
    · simp [k.pc c hc a, b]
    · have := hrl c hc a b
      simp [this.1, this.2]
  · by_cases e : c = d
    · subst e
      refine ⟨⟨by rw [hLd]; exact hT.1, fun e he => ?_, ?_⟩, fun e he => ?_⟩
      · have hne : e ≠ c := fun q => hdd (by rw [q] at he; exact he.2)
        rw [hLo e he.1 hne, hLd]
        exact ⟨hpos e he, hT.2.1 e he⟩
      · rw [hLd]
        rcases hT.2.2 with q | ⟨e, he, q⟩
        · exact .inl q
        · right
          have hne : e ≠ c := fun q => hdd (by rw [q] at he; exact he.2)
          exact ⟨e, he, by rw [hLo e he.1 hne]; exact q⟩
      · rw [hlb, hrdl e he]; rfl
    · have hlc : left.testBit c = false := by rw [hlb] at hl; simpa [e] using hl
      obtain ⟨s1, s2⟩ := k.st c hc hh hlc
      have hned : ∀ e', rdB r c e' → e' ≠ d := fun e' he' q => by have := s2 e' he'; rw [q, hld] at this; cases this
      exact ⟨s1.congr (hLo c hc e) (fun e' he' => hLo e' he'.1 (hned e' he')), fun e' he' => by rw [hlb, s2 e' he']; rfl⟩
  · obtain ⟨a, b⟩ := hlb1 c hl
    rw [hN c hc (k.lh c hc a), k.nd c hc a, hcnt c hc]
    omega
  · obtain ⟨a, b⟩ := hlb1 c hl
    have hh := k.lh c hc a
    have hNc : N' c = (cntN (r c &&& dif left (2 ^ d)) 24 : Int) := by rw [hN c hc hh, k.nd c hc a, hcnt c hc]; omega
    have hct := hcnt c hc
    rw [hr c hc]
    constructor
    · rintro (⟨q1, q2⟩ | ⟨q1, q2, q3, q4⟩)
      · obtain ⟨p1, p2⟩ := (k.rp c hc a).1 q1
        refine ⟨?_, p2⟩
        split at hct <;> omega
      · exact ⟨by omega, q4⟩
    · rintro ⟨p1, p2⟩
      by_cases hq : (r c).testBit d = true
      · exact .inr ⟨hh, hq, by omega, p2⟩
      · left
        rw [if_neg hq] at hct
        exact ⟨(k.rp c hc a).2 ⟨by omega, p2⟩, b⟩
/-- None is ripe any more. -/
theorem KI.done {r : Nat → Nat} {h sick : Nat} {L L' : Nat → Int} {left : Nat} {N : Nat → Int} (o : OutK r h sick L) (k : KI r h sick L left 0 N) (h1 : ∀ c, c < 24 → left.testBit c = true → L' c = -1) (h2 : ∀ c, c < 24 → left.testBit c = false → L' c = L c) :
    LvOK r L' ∧ ∀ c, c < 24 → ((sick ||| left).testBit c = true ↔ L' c = -1) := by
  have hout : ∀ c, c < 24 → h.testBit c = false → left.testBit c = false := by
    intro c hc hh
    cases hl : left.testBit c with
    | false => rfl
    | true => have := k.lh c hc hl; rw [hh] at this; cases this
  have hok : ∀ c, c < 24 → SetL r L' c ∨ CycL r L' c := by
    intro c hc
    cases hl : left.testBit c with
    | true =>
      right
      refine ⟨h1 c hc hl, ?_⟩
      have hnr : ¬ (cntN (r c &&& left) 24 = 0 ∧ r c &&& sick = 0) := fun q => by have := (k.rp c hc hl).2 q; simp at this
      by_cases hz : cntN (r c &&& left) 24 = 0
      · have hs : r c &&& sick ≠ 0 := fun q => hnr ⟨hz, q⟩
        obtain ⟨j, hj1, -⟩ := low_ex _ _ (Nat.le_refl _) hs
        rw [Nat.testBit_and] at hj1
        simp only [Bool.and_eq_true] at hj1
        have hj : j < 24 := by
          rcases Nat.lt_or_ge j 24 with q | q
          · exact q
          · have := Nat.testBit_lt_two_pow (Nat.lt_of_lt_of_le o.sl (Nat.pow_le_pow_right (by omega) q))
            rw [hj1.2] at this; cases this
        obtain ⟨p1, p2⟩ := (o.sk j hj).1 hj1.2
        exact ⟨j, ⟨hj, hj1.1⟩, by rw [h2 j hj (hout j hj p1)]; exact p2⟩
      · obtain ⟨j, hj, hb⟩ : ∃ j, j < 24 ∧ (r c &&& left).testBit j = true := by
          apply Classical.byContradiction
          intro hn
          apply hz
          refine cntN_zero (fun j hj => ?_)
          cases hb : (r c &&& left).testBit j with
          | false => rfl
          | true => exact absurd ⟨j, hj, hb⟩ hn
        rw [Nat.testBit_and] at hb
        simp only [Bool.and_eq_true] at hb
        exact ⟨j, ⟨hj, hb.1⟩, h1 j hj hb.2⟩
    | false =>
      cases hh : h.testBit c with
      | true =>
        obtain ⟨s1, s2⟩ := k.st c hc hh hl
        exact .inl (s1.congr (h2 c hc hl) (fun d hd => h2 d hd.1 (s2 d hd)))
      | false =>
        have hrd : ∀ d, rdB r c d → L' d = L d := fun d hd => h2 d hd.1 (hout d hd.1 (o.cl c hc hh d hd))
        rcases o.ok c hc hh with q | q
        · exact .inl (q.congr (h2 c hc hl) hrd)
        · exact .inr (q.congr (h2 c hc hl) hrd)
  refine ⟨hok, fun c hc => ?_⟩
  rw [Nat.testBit_or, Bool.or_eq_true, o.sk c hc]
  cases hl : left.testBit c with
  | true => exact ⟨fun _ => h1 c hc hl, fun _ => .inr rfl⟩
  | false =>
    rw [h2 c hc hl]
    constructor
    · rintro (q | q)
      · exact q.2
      · cases q
    · intro q
      left
      refine ⟨?_, q⟩
      cases hh : h.testBit c with
      | false => rfl
      | true => have := (k.st c hc hh hl).1.1; omega

end Go.Proofs.Qxb6500570aGreat
