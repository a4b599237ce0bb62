import Derived.Test.Qxb6500567aGreatPc
/- The automaton over sets of places, plain: it tells whether there is a road. -/
namespace Go.Proofs.Qxb6500567aGreat
set_option linter.unusedVariables false
set_option linter.unusedSimpArgs false

/-- One step that takes no byte. -/
def eps (p : List Ins) (ab ae : Bool) (pc pc' : Nat) : Prop :=
  match p[pc]? with
  | some (.inr (.inl (x, y))) => pc' = x ∨ pc' = y
  | some (.inr (.inr (.inl x))) => pc' = x
  | some (.inr (.inr (.inr (.inl _)))) => pc' = pc + 1
  | some (.inr (.inr (.inr (.inr (.inl ()))))) => ab = true ∧ pc' = pc + 1
  | some (.inr (.inr (.inr (.inr (.inr (.inl ())))))) => ae = true ∧ pc' = pc + 1
  | _ => False

/-- k such steps. -/
def ReachN (p : List Ins) (ab ae : Bool) : Nat → Nat → Nat → Prop
  | 0, a, b => a = b
  | k + 1, a, c => ∃ b, ReachN p ab ae k a b ∧ eps p ab ae b c
def Reach (p : List Ins) (ab ae : Bool) (a b : Nat) : Prop := ∃ k, ReachN p ab ae k a b

theorem Reach.refl {p : List Ins} {ab ae : Bool} (a : Nat) : Reach p ab ae a a := ⟨0, rfl⟩
theorem Reach.step {p : List Ins} {ab ae : Bool} (a b c : Nat) (h : Reach p ab ae a b) (he : eps p ab ae b c) : Reach p ab ae a c := by
  obtain ⟨k, hk⟩ := h
  exact ⟨k + 1, b, hk, he⟩
theorem Reach.ind {p : List Ins} {ab ae : Bool} {a : Nat} {P : Nat → Prop} (h0 : P a) (h1 : ∀ b c, P b → eps p ab ae b c → P c) {b : Nat} (h : Reach p ab ae a b) : P b := by
  obtain ⟨k, hk⟩ := h
  induction k generalizing b with
  | zero => cases hk; exact h0
  | succ k ih =>
    obtain ⟨c, hc, he⟩ := hk
    exact h1 c b (ih hc) he

theorem Reach.head {p : List Ins} {ab ae : Bool} {a b c : Nat} (h : eps p ab ae a b) (h' : Reach p ab ae b c) : Reach p ab ae a c :=
  Reach.ind (P := fun c => Reach p ab ae a c) (.step _ _ _ (.refl _) h) (fun x y hx he => .step _ _ _ hx he) h'

/-- R is the closure of the seeds. -/
structure Clo (p : List Ins) (ab ae : Bool) (seeds R : Nat) : Prop where
  sub : ∀ pc, pc < p.length → seeds.testBit pc = true → R.testBit pc = true
  lt : ∀ pc, R.testBit pc = true → pc < p.length
  cl : ∀ pc pc', R.testBit pc = true → eps p ab ae pc pc' → R.testBit pc' = true
  gen : ∀ pc, R.testBit pc = true → ∃ a, seeds.testBit a = true ∧ Reach p ab ae a pc

theorem Clo.reach {p : List Ins} {ab ae : Bool} {seeds R : Nat} (h : Clo p ab ae seeds R) {a b : Nat} (ha : R.testBit a = true) (hr : Reach p ab ae a b) : R.testBit b = true :=
  Reach.ind (P := fun b => R.testBit b = true) ha (fun x y hx he => h.cl _ _ hx he) hr

/-- There is a road from here. -/
def Acc (R : Nat → Nat → List Int → List Way) (pc i : Nat) : Prop := R pc i [] ≠ []

theorem eps_dfd {p : List Ins} {s : List UInt8} {R : Nat → Nat → List Int → List Way} (hR : IsRd p s R) {i pc pc' : Nat} (hD : Dfd p s pc i) (he : eps p (decide (i = 0)) (decide (i = s.length)) pc pc') : Dfd p s pc' i ∧ (Acc R pc' i → Acc R pc i) := by
  obtain ⟨f, hf⟩ := hD.get hR []
  cases f with
  | zero => simp [roads] at hf
  | succ f =>
    have hf0 := hf
    unfold roads at hf
    unfold eps at he
    have fin : ∀ c, roads p s f pc' i c = some (R pc i []) → Dfd p s pc' i ∧ (Acc R pc' i → Acc R pc i) := by
      intro c h
      refine ⟨Dfd.of h, fun ha hn => ha ?_⟩
      exact rd_nil hR (Dfd.of h) (c := c) (by rw [rd_eq hR h]; exact hn)
    cases hp : p[pc]? with
    | none => rw [hp] at he; exact he.elim
    | some ins =>
      rw [hp] at hf he
      cases ins using insCases with
      | chr S => exact he.elim
      | mat => exact he.elim
      | jmp x => cases he; exact fin _ hf
      | save k => cases he; exact fin _ hf
      | bgn =>
        obtain ⟨h1, rfl⟩ := he
        simp only at hf
        rw [if_pos (by simpa using h1)] at hf
        exact fin _ hf
      | fin =>
        obtain ⟨h1, rfl⟩ := he
        simp only at hf
        rw [if_pos (by simpa using h1)] at hf
        exact fin _ hf
      | split x y =>
        simp only at hf
        cases hx : roads p s f x i [] with
        | none => rw [hx] at hf; simp at hf
        | some A =>
          rw [hx] at hf
          cases hy : roads p s f y i [] with
          | none => rw [hy] at hf; simp at hf
          | some B =>
            rw [hy] at hf
            simp only [Option.some.injEq] at hf
            rcases he with rfl | rfl
            · refine ⟨Dfd.of hx, fun ha hn => ha ?_⟩
              rw [hn] at hf
              rw [rd_eq hR hx]
              exact (List.append_eq_nil_iff.1 hf).1
            · refine ⟨Dfd.of hy, fun ha hn => ha ?_⟩
              rw [hn] at hf
              rw [rd_eq hR hy]
              exact (List.append_eq_nil_iff.1 hf).2

theorem reach_dfd {p : List Ins} {s : List UInt8} {R : Nat → Nat → List Int → List Way} (hR : IsRd p s R) {i a b : Nat} (hr : Reach p (decide (i = 0)) (decide (i = s.length)) a b) (hD : Dfd p s a i) : Dfd p s b i ∧ (Acc R b i → Acc R a i) :=
  Reach.ind (P := fun b => Dfd p s b i ∧ (Acc R b i → Acc R a i)) ⟨hD, id⟩ (fun x y h1 he => by
    have h2 := eps_dfd hR h1.1 he
    exact ⟨h2.1, fun h => h1.2 (h2.2 h)⟩) hr

/-- A road leads to an instruction that waits. -/
theorem acc_waits {p : List Ins} {s : List UInt8} {R : Nat → Nat → List Int → List Way} (hR : IsRd p s R) {i : Nat} : ∀ (f pc : Nat) (c : List Int) (L : List Way), roads p s f pc i c = some L → L ≠ [] → ∃ q, Reach p (decide (i = 0)) (decide (i = s.length)) pc q ∧ waits p q = true ∧ Acc R q i := by
  intro f
  induction f with
  | zero => intro pc c L h; simp [roads] at h
  | succ f ih =>
    intro pc c L h hL
    have h0 := h
    have self : waits p pc = true → ∃ q, Reach p (decide (i = 0)) (decide (i = s.length)) pc q ∧ waits p q = true ∧ Acc R q i := by
      intro hw
      exact ⟨pc, .refl pc, hw, fun hn => hL (by rw [← rd_eq hR h0]; exact rd_nil hR (Dfd.of h0) hn)⟩
    have one : ∀ x d L', roads p s f x i d = some L' → L' ≠ [] → eps p (decide (i = 0)) (decide (i = s.length)) pc x → ∃ q, Reach p (decide (i = 0)) (decide (i = s.length)) pc q ∧ waits p q = true ∧ Acc R q i := by
      intro x d L' h1 h2 h3
      obtain ⟨q, a1, a2⟩ := ih x d L' h1 h2
      exact ⟨q, Reach.head h3 a1, a2⟩
    unfold roads at h
    cases hp : p[pc]? with
    | none => rw [hp] at h; simp at h
    | some ins =>
      rw [hp] at h
      cases ins using insCases with
      | chr S => exact self (by simp [waits, hp])
      | mat => exact self (by simp [waits, hp])
      | jmp x => exact one x c L h hL (by simp [eps, hp])
      | save k => exact one (pc + 1) _ L h hL (by simp [eps, hp])
      | bgn =>
        simp only at h
        by_cases hb : i = 0
        · rw [if_pos hb] at h; exact one (pc + 1) _ L h hL (by simp [eps, hp, hb])
        · rw [if_neg hb] at h; exact absurd (Option.some.inj h).symm hL
      | fin =>
        simp only at h
        by_cases hb : i = s.length
        · rw [if_pos hb] at h; exact one (pc + 1) _ L h hL (by simp [eps, hp, hb])
        · rw [if_neg hb] at h; exact absurd (Option.some.inj h).symm hL
      | split x y =>
        simp only at h
        cases hx : roads p s f x i c with
        | none => rw [hx] at h; simp at h
        | some A =>
          rw [hx] at h
          cases hy : roads p s f y i c with
          | none => rw [hy] at h; simp at h
          | some B =>
            rw [hy] at h
            simp only [Option.some.injEq] at h
            by_cases hA : A = []
            · exact one y c B hy (fun hB => hL (by rw [← h, hA, hB]; rfl)) (by simp [eps, hp])
            · exact one x c A hx hA (by simp [eps, hp])

theorem clo_acc {p : List Ins} {s : List UInt8} {R : Nat → Nat → List Int → List Way} (hR : IsRd p s R) {i seeds Q : Nat} (hC : Clo p (decide (i = 0)) (decide (i = s.length)) seeds Q) (hD : ∀ pc, seeds.testBit pc = true → pc < p.length ∧ Dfd p s pc i) :
    (∀ pc, Q.testBit pc = true → Dfd p s pc i) ∧ ((∃ pc, seeds.testBit pc = true ∧ Acc R pc i) ↔ ∃ pc, Q.testBit pc = true ∧ waits p pc = true ∧ Acc R pc i) := by
  refine ⟨fun pc hpc => ?_, ?_, ?_⟩
  · obtain ⟨a, ha, hr⟩ := hC.gen pc hpc
    exact (reach_dfd hR hr (hD a ha).2).1
  · rintro ⟨pc, hpc, ha⟩
    obtain ⟨f, hf⟩ := (hD pc hpc).2.get hR []
    obtain ⟨q, h1, h2, h3⟩ := acc_waits hR f pc [] _ hf ha
    exact ⟨q, hC.reach (hC.sub pc (hD pc hpc).1 hpc) h1, h2, h3⟩
  · rintro ⟨pc, hpc, _, ha⟩
    obtain ⟨a, haa, hr⟩ := hC.gen pc hpc
    exact ⟨a, haa, (reach_dfd hR hr (hD a haa).2).2 ha⟩

theorem Reach.up {p : List Ins} {ab ae ab' ae' : Bool} (h1 : ab = true → ab' = true) (h2 : ae = true → ae' = true) {a b : Nat} (h : Reach p ab ae a b) : Reach p ab' ae' a b := by
  refine Reach.ind (P := fun b => Reach p ab' ae' a b) (.refl _) (fun x y ih he => ?_) h
  refine .step _ x y ih ?_
  unfold eps at he ⊢
  cases hpx : p[x]? with
  | none => rw [hpx] at he; exact he.elim
  | some ins =>
    rw [hpx] at he
    cases ins using insCases with
    | fin => exact ⟨h2 he.1, he.2⟩
    | bgn => exact ⟨h1 he.1, he.2⟩
    | _ => exact he

/-- The seeds of the successor by byte b. -/
def Mov (p : List Ins) (Q : Nat) (b : UInt8) (M : Nat) : Prop := ∀ q, M.testBit q = true ↔ q = 0 ∨ ∃ pc S, q = pc + 1 ∧ pc < p.length ∧ Q.testBit pc = true ∧ p[pc]? = some (.chr S) ∧ S.testBit b.toNat = true

/-- The automaton's walk. -/
def RunD (p : List Ins) (s : List UInt8) : Nat → Nat → Nat → Bool → Prop
  | 0, _, Q, r => ((∃ pc, Q.testBit pc = true ∧ p[pc]? = some .mat) ∧ r = true) ∨ ((∀ pc, Q.testBit pc = true → p[pc]? ≠ some .mat) ∧
      (((∀ pc, Q.testBit pc = true → p[pc]? ≠ some .fin) ∧ r = false) ∨ ∃ T, Clo p (decide (s.length = 0)) true Q T ∧ (r = true ↔ ∃ pc, T.testBit pc = true ∧ p[pc]? = some .mat)))
  | m + 1, i, Q, r => ((∃ pc, Q.testBit pc = true ∧ p[pc]? = some .mat) ∧ r = true) ∨ ((∀ pc, Q.testBit pc = true → p[pc]? ≠ some .mat) ∧
      ∃ b M Q', s[i]? = some b ∧ Mov p Q b M ∧ Clo p false false M Q' ∧ RunD p s m (i + 1) Q' r)

theorem acc_mat {p : List Ins} {s : List UInt8} {R : Nat → Nat → List Int → List Way} (hR : IsRd p s R) {pc i : Nat} (h : p[pc]? = some .mat) : Acc R pc i := by
  unfold Acc
  rw [rd_eq hR (f := 1) (L := [(i, [])]) (by simp [roads, h])]
  simp

theorem acc_chr {p : List Ins} {s : List UInt8} {R : Nat → Nat → List Int → List Way} (hR : IsRd p s R) {pc i : Nat} {S : Cset} (h : p[pc]? = some (.chr S)) (hD : Dfd p s pc i) : Acc R pc i ↔ ∃ b, s[i]? = some b ∧ S.testBit b.toNat = true ∧ Dfd p s (pc + 1) (i + 1) ∧ Acc R (pc + 1) (i + 1) := by
  obtain ⟨f, hf⟩ := hD.get hR []
  cases f with
  | zero => simp [roads] at hf
  | succ f =>
    unfold roads at hf
    rw [h] at hf
    simp only at hf
    unfold Acc
    cases hs : s[i]? with
    | none =>
      rw [hs] at hf
      rw [← Option.some.inj hf]
      simp
    | some b =>
      rw [hs] at hf
      simp only at hf
      by_cases hb : S.testBit b.toNat = true
      · rw [if_pos hb] at hf
        rw [← rd_eq hR hf]
        constructor
        · intro hn; exact ⟨b, rfl, hb, Dfd.of hf, hn⟩
        · rintro ⟨_, _, _, _, hn⟩; exact hn
      · rw [if_neg hb] at hf
        rw [← Option.some.inj hf]
        constructor
        · intro hn; exact absurd rfl hn
        · rintro ⟨b', hb', hb2, _⟩
          cases hb'
          exact absurd hb2 hb

/-- Behind a place there is a start. -/
def Later (R : Nat → Nat → List Int → List Way) (s : List UInt8) (i : Nat) : Prop := ∃ a, i < a ∧ a ≤ s.length ∧ Acc R 0 a

theorem run_ok {p : List Ins} {s : List UInt8} {R : Nat → Nat → List Int → List Way} (hR : IsRd p s R) (hp0 : 0 < p.length) (hin : ∀ pc S, p[pc]? = some (.chr S) → pc + 1 < p.length) (hD0 : ∀ i, i ≤ s.length → Dfd p s 0 i) : ∀ (m i Q : Nat) (r : Bool), RunD p s m i Q r →
    m + i = s.length → i ≤ s.length → (∀ pc, Q.testBit pc = true → pc < p.length ∧ Dfd p s pc i) → (∀ pc pc', Q.testBit pc = true → eps p (decide (i = 0)) false pc pc' → Q.testBit pc' = true) → (r = true ↔ (∃ pc, Q.testBit pc = true ∧ Acc R pc i) ∨ Later R s i) := by
  intro m
  induction m with
  | zero =>
    intro i Q r h hm0 hi hQ hcl
    obtain rfl : i = s.length := by omega
    rcases h with ⟨⟨pc, hq, hmt⟩, rfl⟩ | ⟨hm, ⟨hn, rfl⟩ | ⟨T, hC, hr⟩⟩
    · simp only [true_iff]
      exact .inl ⟨pc, hq, acc_mat hR hmt⟩
    · have hlater : ¬ Later R s s.length := by rintro ⟨a, h1, h2, _⟩; omega
      simp only [Bool.false_eq_true, false_iff]
      rintro (⟨pc, hq, ha⟩ | h)
      · obtain ⟨f, hf⟩ := (hQ pc hq).2.get hR []
        obtain ⟨q, h1, h2, h3⟩ := acc_waits hR f pc [] _ hf ha
        have hqq : Q.testBit q = true := by
          refine Reach.ind (P := fun q => Q.testBit q = true) hq (fun x y ih he => ?_) h1
          refine hcl x y ih ?_
          unfold eps at he ⊢
          cases hpx : p[x]? with
          | none => rw [hpx] at he; exact he.elim
          | some ins =>
            rw [hpx] at he
            cases ins using insCases with
            | fin => exact absurd hpx (hn x ih)
            | _ => exact he
        unfold waits at h2
        cases hpq : p[q]? with
        | none => rw [hpq] at h2; simp at h2
        | some ins =>
          rw [hpq] at h2
          cases ins using insCases with
          | mat => exact hm q hqq hpq
          | chr S =>
            obtain ⟨b, hb, _⟩ := (acc_chr hR hpq (hQ q hqq).2).1 h3
            have := (List.getElem?_eq_some_iff.1 hb).1
            omega
          | _ => simp at h2
      · exact hlater h
    · have hlater : ¬ Later R s s.length := by rintro ⟨a, h1, h2, _⟩; omega
      have hC' : Clo p (decide (s.length = 0)) (decide (s.length = s.length)) Q T := by simpa using hC
      obtain ⟨hTD, hiff⟩ := clo_acc hR hC' hQ
      rw [hr, or_iff_left hlater, hiff]
      constructor
      · rintro ⟨pc, h1, h2⟩
        exact ⟨pc, h1, by simp [waits, h2], acc_mat hR h2⟩
      · rintro ⟨pc, h1, h2, h3⟩
        unfold waits at h2
        cases hpq : p[pc]? with
        | none => rw [hpq] at h2; simp at h2
        | some ins =>
          rw [hpq] at h2
          cases ins using insCases with
          | mat => exact ⟨pc, h1, hpq⟩
          | chr S =>
            obtain ⟨b, hb, _⟩ := (acc_chr hR hpq (hTD pc h1)).1 h3
            have := (List.getElem?_eq_some_iff.1 hb).1
            omega
          | _ => simp at h2
  | succ m ih =>
    intro i Q r h hm0 hi hQ hcl
    rcases h with ⟨⟨pc, hq, hmt⟩, rfl⟩ | ⟨hm, b, M, Q', hs, hM, hC, hrun⟩
    · simp only [true_iff]
      exact .inl ⟨pc, hq, acc_mat hR hmt⟩
    have hlt := (List.getElem?_eq_some_iff.1 hs).1
    -- the set is its own closure
    have hself : Clo p (decide (i = 0)) (decide (i = s.length)) Q Q := by
      refine ⟨fun pc _ h => h, fun pc h => (hQ pc h).1, ?_, fun pc h => ⟨pc, h, .refl pc⟩⟩
      intro pc pc' h he
      apply hcl pc pc' h
      rwa [show decide (i = s.length) = false by simp; omega] at he
    obtain ⟨_, hiff⟩ := clo_acc hR hself hQ
    have hMD : ∀ pc, M.testBit pc = true → pc < p.length ∧ Dfd p s pc (i + 1) := by
      intro q hq
      rcases (hM q).1 hq with rfl | ⟨pc, S, rfl, h1, h2, h3, h4⟩
      · exact ⟨hp0, hD0 _ (by omega)⟩
      · refine ⟨hin pc S h3, ?_⟩
        obtain ⟨f, hf⟩ := (hQ pc h2).2.get hR []
        cases f with
        | zero => simp [roads] at hf
        | succ f =>
          unfold roads at hf
          rw [h3] at hf
          simp only [hs, h4, if_true] at hf
          exact Dfd.of hf
    -- the walls of the next place
    have hC2 : ∀ ae, (ae = false) → Clo p (decide (i + 1 = 0)) ae M Q' := by
      intro ae hae
      subst hae
      simpa using hC
    have hcl' : ∀ pc pc', Q'.testBit pc = true → eps p (decide (i + 1 = 0)) false pc pc' → Q'.testBit pc' = true := (hC2 false rfl).cl
    have hQ' : ∀ pc, Q'.testBit pc = true → pc < p.length ∧ Dfd p s pc (i + 1) := by
      intro pc hpc
      refine ⟨hC.lt pc hpc, ?_⟩
      obtain ⟨a, ha, hr⟩ := hC.gen pc hpc
      exact (reach_dfd hR (a := a) (b := pc) (hr.up (by simp) (by simp)) (hMD a ha).2).1
    have hfin := ih (i + 1) Q' r hrun (by omega) (by omega) hQ' hcl'
    have hsub : ∀ pc, M.testBit pc = true → Q'.testBit pc = true := fun pc h => hC.sub pc (hMD pc h).1 h
    rw [hfin, hiff]
    constructor
    · rintro (⟨pc, hpc, ha⟩ | ⟨a, h1, h2, h3⟩)
      · -- back to the seeds
        obtain ⟨a, haM, hr⟩ := hC.gen pc hpc
        have hback : Acc R a (i + 1) := (reach_dfd hR (a := a) (b := pc) (hr.up (by simp) (by simp)) (hMD a haM).2).2 ha
        rcases (hM a).1 haM with rfl | ⟨pc', S, rfl, g1, g2, g3, g4⟩
        · exact .inr ⟨i + 1, by omega, by omega, hback⟩
        · exact .inl ⟨pc', g2, by simp [waits, g3], (acc_chr hR g3 (hQ pc' g2).2).2 ⟨b, hs, g4, (hMD _ haM).2, hback⟩⟩
      · exact .inr ⟨a, by omega, h2, h3⟩
    · rintro (⟨pc, hpc, hw, ha⟩ | ⟨a, h1, h2, h3⟩)
      · unfold waits at hw
        cases hpq : p[pc]? with
        | none => rw [hpq] at hw; simp at hw
        | some ins =>
          rw [hpq] at hw
          cases ins using insCases with
          | mat => exact absurd hpq (hm pc hpc)
          | chr S =>
            obtain ⟨b', hb', g1, _, g2⟩ := (acc_chr hR hpq (hQ pc hpc).2).1 ha
            rw [hs] at hb'
            cases hb'
            exact .inl ⟨pc + 1, hsub _ ((hM _).2 (.inr ⟨pc, S, rfl, (hQ pc hpc).1, hpc, hpq, g1⟩)), g2⟩
          | _ => simp at hw
      · by_cases ha : a = i + 1
        · subst ha
          exact .inl ⟨0, hsub 0 ((hM 0).2 (.inl rfl)), h3⟩
        · exact .inr ⟨a, by omega, h2, h3⟩

end Go.Proofs.Qxb6500567aGreat
