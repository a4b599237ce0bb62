import Derived.Test.Qxb6500568aGreatDoorMk
namespace Go.Proofs.Qxb6500568aGreatDoor
open Ieee
set_option linter.unusedVariables false
set_option linter.unusedSimpArgs false
set_option linter.unusedSectionVars false

/-! A step takes weight, or fuel; the weight of a state that is in the relation. -/

section
variable {G : Arena} {root : Nat} {s : IS} {f : Nat}

theorem Dn.burnDo {m : Nat} (hf : s.fuel = f) (k n x e : Nat) : Dn G f m (if (iburn s).done then iburn s else ido k n x e (iburn s)) := by
  unfold iburn
  by_cases h0 : s.fuel = 0
  · rw [if_pos h0]
    exact Dn.ite (fun h => .inl h) (fun h => absurd rfl h)
  · rw [if_neg h0]
    exact Dn.ite (fun h => .inl h) (fun h => .inr (.inl (by show s.fuel - 1 < f; omega)))

/-- a task more, wherever the run stands. -/
theorem ThsW.doT {b c k n x e : Nat} (h : ThsW G s.ths b) (ht : TW G ⟨k, n, x, e⟩ c) : ∃ b', b' ≤ b + c ∧ ThsW G (ido k n x e s).ths b' := by
  by_cases hc : s.cur < s.ths.length
  · exact ⟨b + c, Nat.le_refl _, (Wgt.doT ⟨hc, h⟩ ht).w⟩
  · refine ⟨b, by omega, ?_⟩
    have : (ido k n x e s).ths = s.ths := by unfold ido IS.setT; exact List.set_eq_of_length_le (by omega)
    rw [this]; exact h

theorem dn_step {s0 : IS} {w : Nat} (h0 : Wgt G s0 w) {t : Tk} {r : List Tk} (ht0 : s0.th.tasks = t :: r) : Dn G s0.fuel w (istep G root s0) := by
  obtain ⟨u, v, h1, h2, h3⟩ := h0.at
  rw [ht0] at h1
  obtain ⟨a, b1, k1, k2, k3⟩ := h1
  have h := h3 { s0.th with tasks := r } b1 k2
  have hret : ∀ y : ITh, y.tasks = r → Wgt G (s0.setT y) (b1 + v) := fun y hy => h3 y b1 (by rw [hy]; exact k2)
  have hw : w = a + (b1 + v) := by omega
  have hst : istep G root s0 = istep1 G root t s0 (s0.setT { s0.th with tasks := r }) := by unfold istep; rw [ht0]
  rw [hst]
  have hf : (s0.setT { s0.th with tasks := r }).fuel = s0.fuel := rfl
  generalize s0.setT { s0.th with tasks := r } = s at h hf
  rw [← hf]
  generalize b1 + v = b at *
  clear hst hf h2 k3 k2 h3
  subst hw
  unfold istep1
  refine Dn.ite (fun hk => ?_) (fun n1 => ?_)
  · simp only [TW, hk, if_true] at k1
    obtain ⟨l, q1, q2⟩ := k1
    refine Dn.ite (fun hn => ?_) (fun hn => h.dn (by have := szT_pos l; omega))
    rcases q1.inv with rfl | ⟨st, l, rfl⟩
    · exact absurd (IsSL_nil.1 q1) hn
    · obtain ⟨m0, m1, m2⟩ := IsSL_cons.1 q1
      have hz : szT (StL.cons st l) = 1 + szT st + szT l := rfl
      exact h.stmt m1 m2 (by omega)
  refine Dn.ite (fun hk => ?_) (fun n2 => ?_)
  · simp only [TW, hk, Nat.reduceEqDiff, if_true, if_false] at k1
    rcases k1 with ⟨q1, q2⟩ | ⟨ex, q1, q2⟩
    · unfold ieval
      rw [if_pos q1]
      exact Dn.ite (fun _ => (h.push _).dn (by omega)) (fun _ => (h.push _).dn (by omega))
    · exact h.eval q1 (by omega)
  refine Dn.ite (fun hk => ?_) (fun n3 => ?_)
  · simp only [TW, hk, Nat.reduceEqDiff, if_true, if_false, or_false] at k1
    unfold iret
    rw [ht0]
    have hr : retL (t :: r) = some (t, r) := by unfold retL; rw [if_pos hk]
    rw [hr]
    simp only
    refine Dn.ite (fun _ => ?_) (fun _ => Dn.ite (fun _ => ?_) (fun _ => ?_))
    · exact (hret _ rfl).back _ _ (by omega)
    · exact (hret _ rfl).dn (by omega)
    · exact (hret _ rfl).dn (by omega)
  refine Dn.ite (fun hk => ?_) (fun n5 => ?_)
  · simp only [TW, hk, Nat.reduceEqDiff, if_true, if_false, or_false] at k1
    exact (h.drop 1).dn (by omega)
  refine Dn.ite (fun hk => ?_) (fun n6 => ?_)
  · simp only [TW, hk, Nat.reduceEqDiff, if_true, if_false, or_false, true_or] at k1
    obtain ⟨l, q1, q2⟩ := k1
    exact (((h.drop 1).new _ _ _).doT (tw1 q1)).dn (by omega)
  refine Dn.ite (fun hk => ?_) (fun n7 => ?_)
  · simp only [TW, hk, Nat.reduceEqDiff, if_true, if_false, or_false, true_or, or_true] at k1
    obtain ⟨l, q1, q2⟩ := k1
    exact ((((h.drop 2).new _ _ _).new _ _ _).doT (tw1 q1)).dn (by omega)
  refine Dn.ite (fun hk => ?_) (fun n8 => ?_)
  · simp only [TW, hk, Nat.reduceEqDiff, if_true, if_false, or_false, true_or, or_true] at k1
    obtain ⟨l, q1, q2⟩ := k1
    exact (((h.drop 1).setE _ _).doT (tw1 q1)).dn (by omega)
  refine Dn.ite (fun hk => ?_) (fun n9 => ?_)
  · simp only [TW, hk, Nat.reduceEqDiff, if_true, if_false, or_false] at k1
    exact Dn.ite (fun _ => ((h.drop 1).setE _ _).dn (by omega)) (fun _ => (h.drop 1).iset _ _ _ (by omega))
  refine Dn.ite (fun hk => ?_) (fun n10 => ?_)
  · simp only [TW, hk, Nat.reduceEqDiff, if_true, if_false, or_false] at k1
    exact (h.drop 3).iset _ _ _ (by omega)
  refine Dn.ite (fun hk => ?_) (fun n11 => ?_)
  · simp only [TW, hk, Nat.reduceEqDiff, if_true, if_false, or_false] at k1
    obtain ⟨l, g, q1, q2, q3⟩ := k1
    by_cases htr : trV (s.top 0) = true
    · rw [if_pos htr]; exact ((h.drop 1).doT (tw1 q1)).dn (by omega)
    · rw [if_neg htr]; exact ((h.drop 1).doT (tw1 q2)).dn (by omega)
  refine Dn.ite (fun hk => ?_) (fun n12 => ?_)
  · simp only [TW, hk, Nat.reduceEqDiff, if_true, if_false, or_false] at k1
    obtain ⟨l, g, q1, q2, q3⟩ := k1
    exact ((h.doT (tw13 q2)).doT (tw2 q1)).dn (by omega)
  refine Dn.ite (fun hk => ?_) (fun n13 => ?_)
  · simp only [TW, hk, Nat.reduceEqDiff, if_true, if_false, or_false] at k1
    obtain ⟨l, q1, q2⟩ := k1
    exact Dn.ite (fun _ => (((h.drop 1).doT (twO (by simp))).doT (tw1 q1)).dn (by omega)) (fun _ => (h.drop 1).dn (by omega))
  refine Dn.ite (fun hk => Dn.burnDo rfl _ _ _ _) (fun n14 => ?_)
  refine Dn.ite (fun hk => ?_) (fun n15 => ?_)
  · simp only [TW, hk, Nat.reduceEqDiff, if_true, if_false, or_false] at k1
    obtain ⟨l, q1, q2⟩ := k1
    exact Dn.ite (fun _ => Dn.ite (fun _ => (h.doT (tw16 q1)).dn (by omega)) (fun _ => h.raise _ (by omega))) (fun _ => h.raise _ (by omega))
  refine Dn.ite (fun hk => ?_) (fun n16 => ?_)
  · simp only [TW, hk, Nat.reduceEqDiff, if_true, if_false, or_false] at k1
    obtain ⟨l, q1, q2⟩ := k1
    exact Dn.ite (fun _ => (((h.doT (twO (by simp))).new _ _ _).doT (tw1 q1)).dn (by omega)) (fun _ => (h.drop 3).dn (by omega))
  refine Dn.ite (fun hk => Dn.burnDo (s := s.setT _) rfl _ _ _ _) (fun n17 => ?_)
  refine Dn.ite (fun hk => ?_) (fun n18 => ?_)
  · simp only [TW, hk, Nat.reduceEqDiff, if_true, if_false, or_false] at k1
    obtain ⟨l, q1, q2⟩ := k1
    exact Dn.ite (fun _ => h.raise _ (by omega)) (fun _ => ((h.push _).doT (tw19 q1)).dn (by omega))
  refine Dn.ite (fun hk => ?_) (fun n19 => ?_)
  · simp only [TW, hk, Nat.reduceEqDiff, if_true, if_false, or_false] at k1
    obtain ⟨l, q1, q2⟩ := k1
    generalize (tNext (s.tabs.getD (s.top 1).N []) (s.top 0)).getD (vNil, vNil) = kv
    obtain ⟨kk, vv⟩ := kv
    exact Dn.ite (fun _ => (h.drop 2).dn (by omega)) (fun _ => ((((((h.same (y := { s.th with vals := s.th.vals.set 0 kk }) rfl)).doT (twO (by simp))).new _ _ _).new _ _ _).doT (tw1 q1)).dn (by omega))
  refine Dn.ite (fun hk => Dn.burnDo rfl _ _ _ _) (fun n20 => ?_)
  refine Dn.ite (fun hk => ?_) (fun n21 => ?_)
  · simp only [TW, hk, Nat.reduceEqDiff, if_true, if_false, or_false] at k1
    exact (h.drop 2).ret _ _ (by omega)
  refine Dn.ite (fun hk => ?_) (fun n22 => ?_)
  · unfold iapply
    refine Dn.ite (fun _ => .inl rfl) (fun q => .inr (.inl ?_))
    have := FlE.apply1 (G := G) (root := root) (f := s.fuel - 1) (s := idrop (t.x + 1) { s with fuel := s.fuel - 1 }) (Nat.le_refl (s.fuel - 1)) (s.th.vals.take t.x).reverse (s.top t.x)
    have h' : (iapply1 G root (s.th.vals.take t.x).reverse (s.top t.x) (idrop (t.x + 1) { s with fuel := s.fuel - 1 })).fuel ≤ s.fuel - 1 := this
    omega
  refine Dn.ite (fun hk => ?_) (fun n23 => ?_)
  · simp only [TW, hk, Nat.reduceEqDiff, if_true, if_false, or_false] at k1
    obtain ⟨l, q1, q2⟩ := k1
    have hd := (h.drop 1).iset (f := s.fuel) (m := b + 1) (s.top 1) (vNum (fInt t.x)) (s.top 0) (by omega)
    generalize iset (s.top 1) (vNum (fInt t.x)) (s.top 0) (idrop 1 s) = s1 at hd
    refine Dn.ite (fun q => .inl q) (fun q => ?_)
    rcases hd with hd | hd | ⟨b', e1, e2⟩
    · exact absurd hd q
    · right; left
      have : FlE (s.fuel - 1) (iitems (nd G t.n).Nx (t.x + 1) t.e s1) := FlE.items (show s1.fuel ≤ s.fuel - 1 by omega) _ _ _
      have h' : (iitems (nd G t.n).Nx (t.x + 1) t.e s1).fuel ≤ s.fuel - 1 := this
      omega
    · unfold iitems
      refine Dn.ite (fun _ => .inr (.inr ⟨b', by omega, e2⟩)) (fun hn => ?_)
      rcases q1.inv with rfl | ⟨ex, l, rfl⟩
      · exact absurd (IsEL_nil.1 q1) hn
      · obtain ⟨m0, m1, m2⟩ := IsEL_cons.1 q1
        have hz : szT (ExL.cons ex l) = 1 + szT ex + szT l := rfl
        obtain ⟨b2, g1, g2⟩ := ThsW.doT (x := t.x + 1) (e := t.e) e2 (tw23 m2)
        obtain ⟨b3, g3, g4⟩ := ThsW.doT (x := 0) (e := t.e) g2 (tw2 m1)
        exact .inr (.inr ⟨b3, by omega, g4⟩)
  refine Dn.ite (fun hk => ?_) (fun n24 => ?_)
  · simp only [TW, hk, Nat.reduceEqDiff, if_true, if_false, or_false] at k1
    exact (h.drop 2).res _ (by omega)
  refine Dn.ite (fun hk => ?_) (fun n25 => ?_)
  · simp only [TW, hk, Nat.reduceEqDiff, if_true, if_false, or_false] at k1
    exact (h.drop 1).res _ (by omega)
  refine Dn.ite (fun hk => ?_) (fun n26 => ?_)
  · simp only [TW, hk, Nat.reduceEqDiff, if_true, if_false, or_false, true_or] at k1
    obtain ⟨l, q1, q2⟩ := k1
    exact Dn.ite (fun _ => ((h.drop 1).doT (tw2 q1)).dn (by omega)) (fun _ => h.dn (by omega))
  refine Dn.ite (fun hk => ?_) (fun n27 => ?_)
  · simp only [TW, hk, Nat.reduceEqDiff, if_true, if_false, or_false, or_true] at k1
    obtain ⟨l, q1, q2⟩ := k1
    exact Dn.ite (fun _ => h.dn (by omega)) (fun _ => ((h.drop 1).doT (tw2 q1)).dn (by omega))
  refine Dn.ite (fun hk => ?_) (fun n28 => ?_)
  · simp only [TW, hk, Nat.reduceEqDiff, if_true, if_false, or_false] at k1
    exact Dn.ite (fun _ => (h.drop 2).raise _ (by omega)) (fun _ => ((h.drop 2).push _).dn (by omega))
  · simp only [TW, if_neg n1, if_neg n2, if_neg n11, if_neg n12, if_neg n13, if_neg n15, if_neg n16, if_neg n18, if_neg n19, if_neg n23, n6, n7, n8, n26, n27, or_false, if_false] at k1
    exact h.dn (by omega)
end

section
variable {G : Arena} {root : Nat} {Ps : List Proto} {Fs : Nat → FI} {B : Nat → List (Str × Nat) → Prop} {sl : List Nat} {od : List (Str × Nat)} {hb j : Nat}

theorem cw {t : Tk} {ts : List Tk} {a : Nat} (h : TW G t a) (hs : ∃ w, TsW G ts w) : ∃ w, TsW G (t :: ts) w := by
  obtain ⟨w, hw⟩ := hs; exact ⟨_, a, w, h, hw, rfl⟩
theorem K.wt {q pc ts m L hid lc fl} (hK : K G Ps Fs B sl od hb j q pc ts m L hid lc fl) : ∃ w, TsW G ts w :=
  hK (fun q pc ts m L hid lc fl => ∃ w, TsW G ts w) (fun _ _ _ _ _ => True) {
    set := fun h => h
    jmp := fun _ _ h => h
    close := fun _ _ _ h => h
    stash := fun _ _ _ h => h
    foot := fun _ _ _ => ⟨0, rfl⟩
    block := fun h1 _ _ _ _ _ h => cw (tw1 h1) h
    evl := fun h1 _ _ _ _ h => cw (tw2 h1) h
    evl0 := fun _ _ _ h => cw tw20 h
    evl1 := fun _ _ _ _ h => cw tw20 h
    pop := fun _ h => cw (twO (by simp)) h
    bind := fun _ h2 _ _ _ _ _ _ h => cw (tw6 (.inl rfl) h2) h
    bind2 := fun _ _ _ h4 _ _ _ _ _ _ _ h => cw (tw6 (.inr (.inl rfl)) h4) h
    storeN := fun _ _ _ h => cw (twO (by simp)) h
    storeI := fun _ h => cw (twO (by simp)) h
    iff := fun h1 h2 _ _ _ _ _ _ _ _ _ h => cw (tw11 h1 h2) h
    whl := fun h1 _ _ h => cw (tw12 h1.hc h1.hbd) (cw (twO (by simp)) h)
    wtest := fun h1 _ _ h => cw (tw13 h1.hbd) (cw (twO (by simp)) h)
    wback := fun h1 _ _ h => cw (twO (by simp)) (cw (twO (by simp)) h)
    loop := fun h => cw (twO (by simp)) h
    finit := fun h1 _ h => cw (tw15 h1.hbd) (cw (twO (by simp)) h)
    ftest := fun h1 _ h => cw (tw16 h1.hbd) (cw (twO (by simp)) h)
    fback := fun h1 _ h => cw (twO (by simp)) (cw (twO (by simp)) h)
    inin := fun h1 _ h => cw (tw18 h1.hbd) (cw (twO (by simp)) h)
    intest := fun h1 _ h => cw (tw19 h1.hbd) (cw (twO (by simp)) h)
    inback := fun h1 _ h => cw (twO (by simp)) (cw (twO (by simp)) h)
    ret := fun _ _ _ h => cw (twO (by simp)) h
    call := fun _ _ _ _ h => cw (twO (by simp)) h
    item := fun _ _ h3 _ _ _ h => cw (tw23 h3) h
    bin := fun _ _ _ h => cw (twO (by simp)) h
    un := fun _ _ _ _ h => cw (twO (by simp)) h
    land := fun h1 _ _ _ _ _ _ h => cw (tw26 h1) h
    lor := fun h1 _ _ _ _ _ _ h => cw (tw27 h1) h
    index := fun _ _ h => cw (twO (by simp)) h
    bnone := trivial
    bsome := fun _ _ _ _ _ => trivial }
theorem FrL.wt {es : List Env} {ρ : List Nat} {vars : List PV} {clos : List (Nat × List Nat)} {tabs : List Tb} : ∀ {fs : List AFr} {T : List Tk} {V : List PV} {x : Nat}, FrL G Ps Fs es ρ vars clos tabs fs T V x → ∃ w, TsW G T w
  | [], _, _, _, h => ⟨0, by rw [h.1]; rfl⟩
  | f :: fs, _, _, _, ⟨seg, ts, vs, vals, p, e1, e2, h1, h2, _⟩ => by
    obtain ⟨j, ids, od, L, hid, lc, fl, k1, k2, k3, k4, k5⟩ := h1
    obtain ⟨w, hw⟩ := k3.wt
    obtain ⟨w2, hw2⟩ := FrL.wt h2
    rw [e1]
    exact ⟨_, hw.app ⟨1, w2, twO (by simp), hw2, rfl⟩⟩
theorem ThsW.ex : ∀ {l : List ITh}, (∀ x ∈ l, ∃ w, TsW G x.tasks w) → ∃ w, ThsW G l w
  | [], _ => ⟨0, rfl⟩
  | x :: l, h => by
    obtain ⟨a, ha⟩ := h x (by simp)
    obtain ⟨b, hb⟩ := ThsW.ex (l := l) (fun y hy => h y (by simp [hy]))
    exact ⟨_, a, b, ha, hb, rfl⟩
theorem Sim0.wt {i : IS} {a : AS} {ρ : List Nat} (S : Sim0 G root Ps Fs i a ρ) : ∃ w, Wgt G i w := by
  have : ∃ w, ThsW G i.ths w := ThsW.ex (fun x hx => by
    obtain ⟨n, hn⟩ := List.mem_iff_getElem?.1 hx
    have hl := (List.getElem?_eq_some_iff.1 hn).1
    have h2 : a.ths[n]? = some (a.ths[n]'(by rw [← S.tlen]; exact hl)) := List.getElem?_eq_getElem _
    exact (S.ths n x _ hn h2).fr.wt)
  obtain ⟨w, hw⟩ := this
  exact ⟨w, S.curlt, hw⟩
end

end Go.Proofs.Qxb6500568aGreatDoor
