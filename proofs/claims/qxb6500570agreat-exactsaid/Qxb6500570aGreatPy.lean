import Derived.Test.Qxb6500570aGreatPx
/- Plain: the sweep, from the change of one text to the new sheet. -/
namespace Go.Proofs.Qxb6500570aGreat
set_option linter.unusedVariables false
set_option linter.unusedSimpArgs false

/-- The setting of a sweep: text c has been changed; h holds c and is closed under being read. -/
structure SwS (T0 T : Nat → List UInt8) (L0 L : Nat → Int) (S0 S1 : Nat → Vl) (h c : Nat) : Prop where
  old : ShOK T0 L0 S0
  tx : ∀ x, x ≠ c → T x = T0 x
  lv : LvOK (rdT' T) L
  hc : c < 24
  hb : h.testBit c = true
  cl : ∀ x d, x < 24 → rdB (rdT' T) x d → h.testBit d = true → h.testBit x = true
  s1 : ∀ x, x < 24 → S1 x = if h.testBit x = true ∧ L x = -1 then vE 6 else S0 x
theorem SwS.far {T0 T : Nat → List UInt8} {L0 L : Nat → Int} {S0 S1 : Nat → Vl} {h c : Nat} (s : SwS T0 T L0 L S0 S1 h c) {x : Nat} (hx : x < 24) (hn : h.testBit x = false) : x ≠ c ∧ L x = L0 x ∧ ∀ d, rdB (rdT' T) x d → h.testBit d = false := by
  have ne : ∀ y, h.testBit y = false → y ≠ c := fun y hy e => by rw [e, s.hb] at hy; cases hy
  have cl : ∀ y, y < 24 → h.testBit y = false → ∀ d, rdB (rdT' T) y d → h.testBit d = false := by
    intro y hy hq d hd
    cases hdd : h.testBit d with
    | false => rfl
    | true => rw [s.cl y d hy hd hdd] at hq; cases hq
  refine ⟨ne x hn, ?_, cl x hx hn⟩
  refine (lv_part s.lv s.old.1 (A := fun y => y < 24 ∧ h.testBit y = false) (fun y hy => ⟨hy.1, ?_, fun d hd => ⟨hd.1, cl y hy.1 hy.2 d hd⟩⟩) x ⟨hx, hn⟩).symm
  show rdsV (T0 y) = rdsV (T y)
  rw [s.tx y (ne y hy.2)]
/-- Where nothing that it reads has turned, a cell that shows no cycle shows what it is worth. -/
theorem sw_skip {T0 T : Nat → List UInt8} {L0 L : Nat → Int} {S0 S1 S : Nat → Vl} {h c turned : Nat} {done todo : List Nat} {x : Nat} (s : SwS T0 T L0 L S0 S1 h c) (ho : OrdOK L h (done ++ x :: todo)) (i : SwI T L h S1 S turned done (x :: todo))
    (hxc : x ≠ c) (hr : rdsV (T x) &&& turned = 0) (hn : S x ≠ vE 6) : S x = cellV (T x) S := by
  have hx24 : x < 24 ∧ h.testBit x = true ∧ 0 ≤ L x := (ho.1 x).1 (by simp)
  have hpw := ho.2
  rw [List.pairwise_append] at hpw
  have hxn : x ∉ done := fun hm => lexP.irr (hpw.2.2 x hm x (by simp))
  have e1 : S x = S1 x := i.tn x hx24.1 (i.nd x hx24.1 hxn)
  have e2 : S1 x = S0 x := by rw [s.s1 x hx24.1, if_neg (fun q => by have := q.2; omega)]
  have hL0 : 0 ≤ L0 x := by
    rcases s.old.1 x hx24.1 with q | q
    · exact q.1
    · exact absurd (by rw [e1, e2]; exact (s.old.2 x hx24.1).1 q.1) hn
  rw [e1, e2, (s.old.2 x hx24.1).2 hL0, s.tx x hxc]
  refine cellV_dep (fun d hd hb => ?_)
  rw [← s.tx x hxc] at hb
  have ht : turned.testBit d = false := by
    cases hq : turned.testBit d with
    | false => rfl
    | true =>
      have : (rdsV (T x) &&& turned).testBit d = true := by rw [Nat.testBit_and, hb, hq]; rfl
      rw [hr] at this
      simp at this
  have hLd : 0 ≤ L d := by
    rcases s.lv x hx24.1 with q | q
    · exact (q.2.1 d ⟨hd, hb⟩).1
    · exact absurd q.1 (by omega)
  rw [i.tn d hd ht, s.s1 d hd, if_neg (fun q => by have := q.2; omega)]
theorem sw_start {T0 T : Nat → List UInt8} {L0 L : Nat → Int} {S0 S1 : Nat → Vl} {h c : Nat} {l : List Nat} (s : SwS T0 T L0 L S0 S1 h c) : SwI T L h S1 S1 0 [] l :=
  ⟨by decide, fun x hx => (by cases hx), fun x _ _ => rfl, fun x _ _ => (by simp)⟩
theorem sw_end {T0 T : Nat → List UInt8} {L0 L : Nat → Int} {S0 S1 S : Nat → Vl} {h c turned : Nat} {l : List Nat} (s : SwS T0 T L0 L S0 S1 h c) (ho : OrdOK L h l) (i : SwI T L h S1 S turned l []) : ShOK T L S := by
  refine ⟨s.lv, fun x hx => ?_⟩
  have key : x ∉ l → S x = S1 x := fun q => i.tn x hx (i.nd x hx q)
  cases hh : h.testBit x with
  | true =>
    constructor
    · intro hl
      rw [key (fun q => by have := ((ho.1 x).1 q).2.2; omega), s.s1 x hx, if_pos ⟨hh, hl⟩]
    · intro hl
      exact i.ok x ((ho.1 x).2 ⟨hx, hh, hl⟩)
  | false =>
    obtain ⟨h1, h2, h3⟩ := s.far hx hh
    have st : ∀ y, y < 24 → h.testBit y = false → S y = S0 y := by
      intro y hy hq
      rw [i.tn y hy (i.nd y hy (fun q => by rw [((ho.1 y).1 q).2.1] at hq; cases hq)), s.s1 y hy, if_neg (fun q => by rw [q.1] at hq; cases hq)]
    rw [st x hx hh, h2]
    refine ⟨(s.old.2 x hx).1, fun hl => ?_⟩
    rw [(s.old.2 x hx).2 hl, s.tx x h1]
    refine cellV_dep (fun d hd hb => ?_)
    exact (st d hd (h3 d ⟨hd, by show (rdsV (T x)).testBit d = true; rw [s.tx x h1]; exact hb⟩)).symm

/-! ### all cells in order: the model's way -/
/-- The sheet under way in the model: the cells of done have had their turn. -/
theorem OrdOK.congr {L M : Nat → Int} {h : Nat} {l : List Nat} (ho : OrdOK L h l) (e : ∀ x, x < 24 → M x = L x) : OrdOK M h l := by
  refine ⟨fun x => ?_, ?_⟩
  · rw [ho.1 x]
    constructor
    · rintro ⟨a, b, c⟩; exact ⟨a, b, by rw [e x a]; exact c⟩
    · rintro ⟨a, b, c⟩; exact ⟨a, b, by rw [← e x a]; exact c⟩
  · refine ho.2.imp_of_mem (fun {a b} ha hb hq => ?_)
    have h1 := ((ho.1 a).1 ha).1
    have h2 := ((ho.1 b).1 hb).1
    unfold lexP at hq ⊢
    rw [e a h1, e b h2]
    exact hq
end Go.Proofs.Qxb6500570aGreat
