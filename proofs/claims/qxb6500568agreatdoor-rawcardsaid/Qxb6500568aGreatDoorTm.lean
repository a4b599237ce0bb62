import Derived.Test.Qxb6500568aGreatDoorTl
/- The machine's check: a thread. -/
namespace Go.Proofs.Qxb6500568aGreatDoor
open Ieee
set_option linter.unusedVariables false
set_option linter.unusedSimpArgs false
set_option linter.unusedSectionVars false

theorem tilT_len : ∀ (F : Fns) (o k c : Nat), (tilT o k c F).length = F.length
  | [], o, k, c => rfl
  | f :: F, o, k, c => by show (tilT _ _ _ F).length + 1 = _; rw [tilT_len F]; rfl
theorem tilT_at : ∀ (F : Fns) (p o k c : Nat), p < F.length → ∃ a b q, (tilT o k c F)[p]? = some (fsAt F p, a, b, q)
  | [], p, o, k, c, h => by cases h
  | f :: F, 0, o, k, c, h => ⟨o, k, c, rfl⟩
  | f :: F, p + 1, o, k, c, h => tilT_at F p _ _ _ (by rw [List.length_cons] at h; omega)
section
variable {E : VE} {nb xb : Nat} {w : World} {ow : Nat → Nat} {F : Fns} {V : VS} {s : AS} {κ : List Nat} {d : AD} {x : PX}
/-- a thread that sleeps within its frames, as the check reads it; n frames, j counted from the bottom. -/
structure ThC (F : Fns) (s : AS) (V : VS) (i : Nat) (y : VTh) (t : ATh) : Prop where
  ne : 1 ≤ y.frs.length
  le : y.frs.length ≤ 8
  /-- a frame. -/
  fr : ∀ (j : Nat) (f : VFr), y.frs.reverse[j]? = some f → ∃ (g : AFr) (p : Nat) (cs : List Nat), t.frs.reverse[j]? = some g ∧ V.clos[f.clo]? = some (p, cs) ∧ p < F.length ∧ g.slots.length = (fsAt F p).ns ∧ f.pc ≤ (fsAt F p).code.length ∧ f.ret ≤ f.base ∧ f.base + g.slots.length + g.ops.length ≤ y.stack.length ∧ g.ops.length ≤ 126 ∧
    (j = 0 → f.base = 0 ∧ f.ret = 0 ∧ f.prot = false) ∧ (j + 1 = y.frs.length → f.base + g.slots.length + g.ops.length = y.stack.length) ∧
    (∀ f' : VFr, y.frs.reverse[j + 1]? = some f' → f.base + g.slots.length + g.ops.length = f'.ret ∧ f'.ret + 1 ≤ f'.base ∧ f'.base ≤ f'.ret + 4 ∧ f'.base ≤ f.base + g.slots.length + 128 ∧ f'.base ≤ y.stack.length)
  /-- an open cell. -/
  op : ∀ (k c : Nat), y.opn.reverse[k]? = some c → ∃ z : VCell, V.cells[c]? = some z ∧ z.th = some i ∧ ∃ (j : Nat) (f : VFr) (g : AFr), y.frs.reverse[j]? = some f ∧ t.frs.reverse[j]? = some g ∧ f.base ≤ z.pl ∧ z.pl < f.base + g.slots.length
  od : ∀ (k c c' : Nat) (z z' : VCell), y.opn.reverse[k]? = some c → y.opn.reverse[k + 1]? = some c' → V.cells[c]? = some z → V.cells[c']? = some z' → z.pl < z'.pl
  /-- frames further up begin higher. -/
  up : ∀ (j j' : Nat) (f f' : VFr) (g : AFr), j < j' → y.frs.reverse[j]? = some f → t.frs.reverse[j]? = some g → y.frs.reverse[j']? = some f' → f.base + g.slots.length ≤ f'.base
theorem ThC.mono {F : Fns} {s : AS} {V : VS} {i : Nat} {y : VTh} {t : ATh} (h : ThC F s V i y t) {o c : Nat} {z : VCell} (hc : y.opn.reverse[o]? = some c) (hz : V.cells[c]? = some z) : ∀ (e : Nat) {c' : Nat} {z' : VCell}, y.opn.reverse[o + e]? = some c' → V.cells[c']? = some z' → z.pl ≤ z'.pl
  | 0, c', z', h1, h2 => by
    rw [Nat.add_zero, hc] at h1
    cases h1
    rw [hz] at h2
    cases h2
    exact Nat.le_refl _
  | e + 1, c', z', h1, h2 => by
    have hl := (List.getElem?_eq_some_iff.1 h1).1
    obtain ⟨c2, hc2⟩ : ∃ c2, y.opn.reverse[o + e]? = some c2 := ⟨_, List.getElem?_eq_getElem (by omega)⟩
    obtain ⟨z2, hz2, -⟩ := h.op _ _ hc2
    have q1 := h.mono hc hz e hc2 hz2
    have q2 := h.od (o + e) c2 c' z2 z' hc2 h1 hz2 h2
    omega
theorem ThC.next {F : Fns} {s : AS} {V : VS} {i : Nat} {y : VTh} {t : ATh} (h : ThC F s V i y t) {j o : Nat} {f : VFr} {g : AFr} (hf : y.frs.reverse[j]? = some f) (hg : t.frs.reverse[j]? = some g) (hge : ∀ (k c : Nat) (z : VCell), o ≤ k → y.opn.reverse[k]? = some c → V.cells[c]? = some z → f.base + g.slots.length ≤ z.pl) : (∀ (k c : Nat) (z : VCell) (f' : VFr), o ≤ k → y.opn.reverse[k]? = some c → V.cells[c]? = some z → y.frs.reverse[j + 1]? = some f' → f'.base ≤ z.pl) ∧ (j + 1 = y.frs.length → ∀ (k c : Nat), o ≤ k → y.opn.reverse[k]? = some c → False) := by
  have key : ∀ (k c : Nat) (z : VCell), o ≤ k → y.opn.reverse[k]? = some c → V.cells[c]? = some z → ∃ (j' : Nat) (f' : VFr), j < j' ∧ y.frs.reverse[j']? = some f' ∧ f'.base ≤ z.pl := fun k c z hk hc hz => by
    obtain ⟨z', hz', -, j', f', g', hf', hg', q1, q2⟩ := h.op k c hc
    rw [hz] at hz'
    cases hz'
    have := hge k c z hk hc hz
    refine ⟨j', f', ?_, hf', q1⟩
    apply Classical.byContradiction
    intro hn
    by_cases e : j' = j
    · subst e
      rw [hf] at hf'
      rw [hg] at hg'
      cases hf'
      cases hg'
      omega
    · have := h.up j' j f' f g' (by omega) hf' hg' hf
      omega
  refine ⟨fun k c z f' hk hc hz hf' => ?_, fun hl k c hk hc => ?_⟩
  · obtain ⟨j2, f2, h1, h2, h3⟩ := key k c z hk hc hz
    by_cases e : j2 = j + 1
    · subst e
      rw [hf'] at h2
      cases h2
      exact h3
    · obtain ⟨g', -, -, hg', -⟩ := h.fr (j + 1) f' hf'
      have := h.up (j + 1) j2 f' f2 g' (by omega) hf' hg' h2
      omega
  · obtain ⟨z, hz, -⟩ := h.op k c hc
    obtain ⟨j2, f2, h1, h2, h3⟩ := key k c z hk hc hz
    have := (List.getElem?_eq_some_iff.1 h2).1
    rw [List.length_reverse] at this
    omega
theorem MK.thc (h : MK E nb xb w ow F V s κ d x) {i : Nat} {y : VTh} {t : ATh} (hy : V.ths[i]? = some y) (ht : s.ths[i]? = some t) (hst : t.st = 2 ∨ t.st = 3) : ThC F s V i y t := by
  obtain ⟨t', ht', ⟨h1, h2, hG⟩, hB, hZ, hD, h4⟩ := h.th hy
  rw [ht] at ht'
  cases ht'
  have hl := hG.lens
  have hne := hB.ne hst
  have h1' : 1 ≤ t.frs.length := List.length_pos_iff.2 hne
  have rev : ∀ {α : Type} (l : List α) (j : Nat) (a : α), l.reverse[j]? = some a → j < l.length ∧ l[l.length - 1 - j]? = some a := fun {α} l j a q => by
    have hj := (List.getElem?_eq_some_iff.1 q).1
    rw [List.length_reverse] at hj
    rw [List.getElem?_reverse hj] at q
    exact ⟨hj, q⟩
  have rev2 : ∀ {α : Type} (l : List α) (j : Nat) (a : α), j < l.length → l[l.length - 1 - j]? = some a → l.reverse[j]? = some a := fun {α} l j a hj q => by rw [List.getElem?_reverse hj]; exact q
  refine ⟨by omega, by have := hZ.1; omega, fun j f hf => ?_, fun k c hc => ?_, fun k c c' z z' hc hc' hz hz' => ?_, fun j j' f f' g hjj hf hg hf' => ?_⟩
  · obtain ⟨hj, hf⟩ := rev _ _ _ hf
    obtain ⟨g, hg, ⟨g1, g2, g3⟩, g4, g5, g6, g7, g8⟩ := hG.at hf
    have hgm : g ∈ t.frs := List.mem_of_getElem? hg
    obtain ⟨p, ids, hp, hns⟩ := hZ.2 g hgm
    have hpc := hB.pc g hgm
    have hvc : ∃ cs, V.clos[f.clo]? = some (p, cs) := by
      have hlt : f.clo < V.clos.length := by rw [h.z.r.clen, g1]; exact hpc.1
      obtain ⟨⟨p', cs⟩, hq⟩ : ∃ q, V.clos[f.clo]? = some q := ⟨_, List.getElem?_eq_getElem hlt⟩
      have := (h.z.r.clo f.clo p' cs hq).1
      rw [g1, hp] at this
      injection this with this
      injection this with e1 e2
      exact ⟨cs, by rw [hq, e1]⟩
    obtain ⟨cs, hvc⟩ := hvc
    have hpl : p < F.length := by
      have := (h.fin.sh.cl g.clo p ids hp).1
      unfold Psf at this
      rwa [List.length_map] at this
    rw [pr_psf] at hns
    have hpc2 := hpc.2
    rw [List.getD_eq_getElem?_getD, hp] at hpc2
    have hpc2 : g.pc ≤ (pr (Psf F) p).code.length := hpc2
    rw [pr_psf] at hpc2
    refine ⟨g, p, cs, rev2 _ _ _ (by omega) (by rw [← hl]; exact hg), hvc, hpl, hns, by rw [g2]; exact hpc2, g4, g5, hB.o2 h4 g hgm, fun hj0 => ?_, fun hjl => g6 (by omega), fun f' hf' => ?_⟩
    · obtain ⟨-, q2⟩ := hD.at hf hg
      refine ⟨q2 (by omega), g8 (by omega), ?_⟩
      rw [g3]
      refine hB.bt g ?_
      rw [List.getLast?_eq_getElem?, ← hl, ← hg]
      congr 1
      omega
    · obtain ⟨hj', hf'⟩ := rev _ _ _ hf'
      rw [show y.frs.length - 1 - (j + 1) = y.frs.length - 1 - j - 1 by omega] at hf'
      have e1 := g7 f' (by omega) hf'
      obtain ⟨g', hg', -, k4, k5, -⟩ := hG.at hf'
      obtain ⟨q1, -⟩ := hD.at hf' hg'
      obtain ⟨r1, r2, r3⟩ := q1 f g (by rw [show y.frs.length - 1 - j - 1 + 1 = y.frs.length - 1 - j by omega]; exact hf) (by rw [show y.frs.length - 1 - j - 1 + 1 = y.frs.length - 1 - j by omega]; exact hg)
      exact ⟨e1, r1, r2, r3, by omega⟩
  · obtain ⟨-, hc⟩ := rev _ _ _ hc
    obtain ⟨z, hz, hzt⟩ := (h.z.r.om i y hy c).1 (List.mem_of_getElem? hc)
    have := h.z.r.ce c z hz
    rw [hzt] at this
    obtain ⟨-, y', t', hy', ht', hs⟩ := this
    rw [hy] at hy'
    rw [ht] at ht'
    cases hy'
    cases ht'
    obtain ⟨e, f, g, hf, hg, q1, q2⟩ := hs.ex
    have he := (List.getElem?_eq_some_iff.1 hf).1
    exact ⟨z, hz, hzt, y.frs.length - 1 - e, f, g, rev2 _ _ _ (by omega) (by rw [show y.frs.length - 1 - (y.frs.length - 1 - e) = e by omega]; exact hf), rev2 _ _ _ (by omega) (by rw [show t.frs.length - 1 - (y.frs.length - 1 - e) = e by omega]; exact hg), q1, q2⟩
  · obtain ⟨hk, hc⟩ := rev _ _ _ hc
    obtain ⟨hk', hc'⟩ := rev _ _ _ hc'
    have := h.z.r.od i y hy
    rw [List.pairwise_iff_getElem] at this
    obtain ⟨l1, e1⟩ := List.getElem?_eq_some_iff.1 hc
    obtain ⟨l2, e2⟩ := List.getElem?_eq_some_iff.1 hc'
    have q := this _ _ l2 l1 (by omega)
    rw [e1, e2, List.getD_eq_getElem?_getD, List.getD_eq_getElem?_getD, hz, hz'] at q
    exact q
  · obtain ⟨hj, hf⟩ := rev _ _ _ hf
    obtain ⟨hj2, hg⟩ := rev _ _ _ hg
    obtain ⟨hj', hf'⟩ := rev _ _ _ hf'
    rw [← hl] at hg
    exact hG.below hf' (e := j' - j - 1) (by rw [show y.frs.length - 1 - j' + 1 + (j' - j - 1) = y.frs.length - 1 - j by omega]; exact hf) (by rw [show y.frs.length - 1 - j' + 1 + (j' - j - 1) = y.frs.length - 1 - j by omega]; exact hg)
/-- a thread that has no frames. -/
theorem MK.thn (h : MK E nb xb w ow F V s κ d x) {i : Nat} {y : VTh} {t : ATh} (hy : V.ths[i]? = some y) (ht : s.ths[i]? = some t) (hst : t.st = 1 ∨ t.st = 5) : y.stack.length = 0 ∧ y.frs.length = 0 ∧ y.opn.length = 0 := by
  obtain ⟨t', ht', ⟨h1, h2, hG⟩, hB, hZ, hD, h4⟩ := h.th hy
  rw [ht] at ht'
  cases ht'
  have he := hB.e hst
  have hl := hG.lens
  rw [he] at hG hl
  have hf : y.frs = [] := List.eq_nil_of_length_eq_zero hl
  rw [hf] at hG
  refine ⟨hG, hl, ?_⟩
  cases ho : y.opn with
  | nil => rfl
  | cons c r =>
    exfalso
    obtain ⟨z, hz, hzt⟩ := (h.z.r.om i y hy c).1 (by rw [ho]; exact List.mem_cons_self)
    have := h.z.r.ce c z hz
    rw [hzt] at this
    obtain ⟨-, y', t', hy', ht', hs⟩ := this
    rw [hy] at hy'
    rw [ht] at ht'
    cases hy'
    cases ht'
    rw [hf] at hs
    cases hs
end
end Go.Proofs.Qxb6500568aGreatDoor
