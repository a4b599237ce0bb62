import Derived.Test.Qxb6500568aGreatDoorUf
namespace Go.Proofs.Qxb6500568aGreatDoor
open Ieee
set_option linter.unusedVariables false
set_option linter.unusedSimpArgs false
set_option linter.unusedSectionVars false

/-! A real table: its border. -/

def scanR (t : RT) : Nat → List Nat → Nat
  | n, [] => n
  | n, p :: l => if (t.ord.getD p (vNil, vNil)).2.T = 0 then n else scanR t (n + 1) l
theorem len_scan {t : RT} (h : TI t) : ∀ (l : List Nat) (n f : Nat), t.arr.drop n = l → n + l.length = t.arr.length → l.length < f → lenF f n t.ord = scanR t n l
  | l, n, 0, _, _, hf => by omega
  | [], n, f + 1, hd, hn, hf => by
    have e : look t.ord (vNum (fInt (n + 1))) = none := by
      unfold look
      have : place t.ord (vNum (fInt (n + 1))) = none := by
        rcases hp : place t.ord (vNum (fInt (n + 1))) with _ | p
        · rfl
        · obtain ⟨v, hv⟩ := place_get hp
          simp at hn
          rw [hn] at hv
          exact absurd hv (h.gap p v)
      rw [this]; rfl
    unfold lenF
    rw [e]; rfl
  | p :: l, n, f + 1, hd, hn, hf => by
    have hg : t.arr[n]? = some p := by
      have := congrArg (fun x => x[0]?) hd
      simpa using this
    obtain ⟨v, hv⟩ := h.arrI n p hg
    have e : look t.ord (vNum (fInt (n + 1))) = some v := by
      unfold look
      rw [(place_iff h.ok _ _).2 ⟨v, hv⟩]
      show (t.ord[p]?).map (·.2) = some v
      rw [hv]; rfl
    have e2 : t.ord.getD p (vNil, vNil) = (vNum (fInt (n + 1)), v) := by rw [List.getD_eq_getElem?_getD, hv]; rfl
    unfold lenF scanR
    rw [e, e2]
    show (if v.T = 0 then n else lenF f (n + 1) t.ord) = if v.T = 0 then n else _
    split
    · rfl
    · refine len_scan h l (n + 1) f ?_ (by simp at hn; omega) (by simp at hf; omega)
      have := congrArg List.tail hd
      simpa using this
theorem len_ok {t : RT} (h : TI t) : tLen t.ord = scanR t 0 t.arr := len_scan h t.arr 0 33 rfl (by omega) (by have := h.alen; omega)
theorem scan_live {t : RT} (hd : ∀ q ∈ t.ord, q.2.T ≠ 0) : ∀ (l : List Nat) (n : Nat), (∀ p ∈ l, p < t.ord.length) → scanR t n l = n + l.length
  | [], n, _ => rfl
  | p :: l, n, hl => by
    unfold scanR
    have hp := hl p List.mem_cons_self
    rw [if_neg]
    · rw [scan_live hd l (n + 1) fun q hq => hl q (List.mem_cons_of_mem _ hq), List.length_cons]; omega
    · rw [List.getD_eq_getElem?_getD, List.getElem?_eq_getElem hp]
      exact hd _ (List.getElem_mem hp)
/-- no dead place: the border is the array part's end. -/
theorem len_dead0 {t : RT} (h : TI t) (hd : t.dead = 0) : tLen t.ord = t.arr.length := by
  have h0 : ∀ q ∈ t.ord, q.2.T ≠ 0 := fun q hq e => by
    have hm : q ∈ t.ord.filter fun q => decide (q.2.T = 0) := List.mem_filter.2 ⟨hq, by simp [e]⟩
    have := List.length_pos_of_mem hm
    rw [← h.deadI, hd] at this
    omega
  rw [len_ok h, scan_live h0 t.arr 0 (fun p hp => ?_), Nat.zero_add]
  obtain ⟨i, hi, e⟩ := List.getElem_of_mem hp
  obtain ⟨w, hw⟩ := h.arrI i p (by rw [List.getElem?_eq_getElem hi, e])
  exact (List.getElem?_eq_some_iff.1 hw).1

end Go.Proofs.Qxb6500568aGreatDoor
