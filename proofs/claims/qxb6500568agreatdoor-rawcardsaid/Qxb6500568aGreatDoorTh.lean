import Derived.Test.Qxb6500568aGreatDoorTg
/- The check of the compiler: one function's state. -/
namespace Go.Proofs.Qxb6500568aGreatDoor
open Ieee
set_option linter.unusedVariables false
set_option linter.unusedSimpArgs false
set_option linter.unusedSectionVars false

/-! The pools count. -/
def numL : List PV → Nat → List (Nat × Nat)
  | [], _ => []
  | v :: l, i => if v.T = 2 then (v.N, i) :: numL l (i + 1) else numL l (i + 1)
def strL : List PV → Nat → List (Str × Nat)
  | [], _ => []
  | v :: l, i => if v.T = 2 then strL l (i + 1) else (v.S, i) :: strL l (i + 1)
theorem pool_len : ∀ (l : List PV) (i : Nat), (numL l i).length + (strL l i).length = l.length
  | [], i => rfl
  | v :: l, i => by
    have := pool_len l (i + 1)
    unfold numL strL
    split
    · rw [List.length_cons, List.length_cons]; omega
    · rw [List.length_cons, List.length_cons]; omega
theorem numL_mem : ∀ {l : List PV} {i n p : Nat}, (∀ v ∈ l, KOK v) → ((n, p) ∈ numL l i ↔ i ≤ p ∧ l[p - i]? = some (vNum n))
  | [], i, n, p, _ => by simp [numL]
  | v :: l, i, n, p, h => by
    have ih := numL_mem (l := l) (i := i + 1) (n := n) (p := p) (fun u hu => h u (List.mem_cons_of_mem _ hu))
    have hs : ∀ q, i + 1 ≤ q → (v :: l)[q - i]? = l[q - (i + 1)]? := fun q hq => by
      rw [show q - i = q - (i + 1) + 1 by omega, List.getElem?_cons_succ]
    unfold numL
    rcases h v List.mem_cons_self with ⟨x, rfl, -⟩ | ⟨s, rfl, -⟩
    · rw [if_pos (show (vNum x).T = 2 from rfl), List.mem_cons, ih]
      constructor
      · rintro (q | ⟨q1, q2⟩)
        · injection q with q1 q2
          subst q1 q2
          exact ⟨Nat.le_refl _, by rw [Nat.sub_self]; rfl⟩
        · exact ⟨by omega, by rw [hs p q1]; exact q2⟩
      · rintro ⟨q1, q2⟩
        by_cases hp : p = i
        · subst hp
          rw [Nat.sub_self] at q2
          injection q2 with q2
          left
          have : x = n := congrArg PV.N q2
          rw [this]; rfl
        · right
          exact ⟨by omega, by rw [← hs p (by omega)]; exact q2⟩
    · rw [if_neg (show ¬ (vStr s).T = 2 from fun q => by have q : (3 : Nat) = 2 := q; omega), ih]
      constructor
      · rintro ⟨q1, q2⟩
        exact ⟨by omega, by rw [hs p q1]; exact q2⟩
      · rintro ⟨q1, q2⟩
        by_cases hp : p = i
        · subst hp
          rw [Nat.sub_self] at q2
          injection q2 with q2
          have : (3 : Nat) = 2 := congrArg PV.T q2
          omega
        · exact ⟨by omega, by rw [← hs p (by omega)]; exact q2⟩
theorem strL_mem : ∀ {l : List PV} {i p : Nat} {n : Str}, (∀ v ∈ l, KOK v) → ((n, p) ∈ strL l i ↔ i ≤ p ∧ l[p - i]? = some (vStr n))
  | [], i, p, n, _ => by simp [strL]
  | v :: l, i, p, n, h => by
    have ih := strL_mem (l := l) (i := i + 1) (n := n) (p := p) (fun u hu => h u (List.mem_cons_of_mem _ hu))
    have hs : ∀ q, i + 1 ≤ q → (v :: l)[q - i]? = l[q - (i + 1)]? := fun q hq => by
      rw [show q - i = q - (i + 1) + 1 by omega, List.getElem?_cons_succ]
    unfold strL
    rcases h v List.mem_cons_self with ⟨x, rfl, -⟩ | ⟨s, rfl, -⟩
    · rw [if_pos (show (vNum x).T = 2 from rfl), ih]
      constructor
      · rintro ⟨q1, q2⟩
        exact ⟨by omega, by rw [hs p q1]; exact q2⟩
      · rintro ⟨q1, q2⟩
        by_cases hp : p = i
        · subst hp
          rw [Nat.sub_self] at q2
          injection q2 with q2
          have : (2 : Nat) = 3 := congrArg PV.T q2
          omega
        · exact ⟨by omega, by rw [← hs p (by omega)]; exact q2⟩
    · rw [if_neg (show ¬ (vStr s).T = 2 from fun q => by have q : (3 : Nat) = 2 := q; omega), List.mem_cons, ih]
      constructor
      · rintro (q | ⟨q1, q2⟩)
        · injection q with q1 q2
          subst q2
          have q1 : n = s := q1
          subst q1
          exact ⟨Nat.le_refl _, by rw [Nat.sub_self]; rfl⟩
        · exact ⟨by omega, by rw [hs p q1]; exact q2⟩
      · rintro ⟨q1, q2⟩
        by_cases hp : p = i
        · subst hp
          rw [Nat.sub_self] at q2
          injection q2 with q2
          left
          have : s = n := congrArg PV.S q2
          rw [this]; rfl
        · right
          exact ⟨by omega, by rw [← hs p (by omega)]; exact q2⟩
theorem posP_ix {α : Type} {p : α → Bool} : ∀ {l : List α} {i : Nat} {x : α}, l.Nodup → l[i]? = some x → (∀ y, p y = true ↔ y = x) → posP p l = some i
  | [], i, x, _, h, _ => by cases h
  | y :: l, 0, x, hn, h, hp => by
    injection h with h
    unfold posP
    rw [if_pos ((hp y).2 h)]
  | y :: l, i + 1, x, hn, h, hp => by
    rw [List.getElem?_cons_succ] at h
    have hn := List.nodup_cons.1 hn
    have hne : ¬ p y = true := fun q => by
      have := (hp y).1 q
      subst this
      exact hn.1 (List.mem_of_getElem? h)
    unfold posP
    rw [if_neg hne, posP_ix hn.2 h hp]
    rfl
theorem numF_iff {ks : List PV} {n p : Nat} (hn : ks.Nodup) : numF ks n = some p ↔ ks[p]? = some (vNum n) := by
  unfold numF
  constructor
  · intro h
    obtain ⟨x, h1, h2⟩ := posP_some h
    rw [eqPV_iff] at h2
    rw [h1, h2]
  · intro h
    exact posP_ix hn h (fun y => by rw [eqPV_iff]; exact eq_comm)
theorem strF_iff {ks : List PV} {n : Str} {p : Nat} (hn : ks.Nodup) : strF ks n = some p ↔ ks[p]? = some (vStr n) := by
  unfold strF
  constructor
  · intro h
    obtain ⟨x, h1, h2⟩ := posP_some h
    rw [eqPV_iff] at h2
    rw [h1, h2]
  · intro h
    exact posP_ix hn h (fun y => by rw [eqPV_iff]; exact eq_comm)
theorem nodup_keys {α : Type} {f : α → Option Nat} {l : List (α × Nat)} (hk : ∀ i j : Nat, ∀ x y, l[i]? = some x → l[j]? = some y → i < j → x.2 < y.2) : l.Nodup := by
  unfold List.Nodup
  rw [List.pairwise_iff_getElem]
  intro i j hi hj hij e
  have := hk i j _ _ (List.getElem?_eq_getElem hi) (List.getElem?_eq_getElem hj) hij
  rw [e] at this
  exact absurd this (Nat.lt_irrefl _)
theorem numL_srt : ∀ (l : List PV) (i : Nat), (numL l i).Pairwise (fun x y => x.2 < y.2) ∧ ∀ x ∈ numL l i, i ≤ x.2
  | [], i => ⟨.nil, fun x hx => by cases hx⟩
  | v :: l, i => by
    obtain ⟨h1, h2⟩ := numL_srt l (i + 1)
    unfold numL
    split
    · refine ⟨List.pairwise_cons.2 ⟨fun x hx => by have := h2 x hx; show i < x.2; omega, h1⟩, fun x hx => ?_⟩
      rcases List.mem_cons.1 hx with rfl | hx
      · exact Nat.le_refl _
      · have := h2 x hx; omega
    · exact ⟨h1, fun x hx => by have := h2 x hx; omega⟩
theorem strL_srt : ∀ (l : List PV) (i : Nat), (strL l i).Pairwise (fun x y => x.2 < y.2) ∧ ∀ x ∈ strL l i, i ≤ x.2
  | [], i => ⟨.nil, fun x hx => by cases hx⟩
  | v :: l, i => by
    obtain ⟨h1, h2⟩ := strL_srt l (i + 1)
    unfold strL
    split
    · exact ⟨h1, fun x hx => by have := h2 x hx; omega⟩
    · refine ⟨List.pairwise_cons.2 ⟨fun x hx => by have := h2 x hx; show i < x.2; omega, h1⟩, fun x hx => ?_⟩
      rcases List.mem_cons.1 hx with rfl | hx
      · exact Nat.le_refl _
      · have := h2 x hx; omega
theorem srt_nd {α : Type} {l : List (α × Nat)} (h : l.Pairwise (fun x y => x.2 < y.2)) : l.Nodup := by
  unfold List.Nodup
  exact h.imp fun {a b} q e => by rw [e] at q; exact absurd q (Nat.lt_irrefl _)
theorem fst_nd {α : Type} {l : List (α × Nat)} (h : (l.map (·.1)).Nodup) : l.Nodup := by
  unfold List.Nodup at h ⊢
  rw [List.pairwise_map] at h
  exact h.imp fun {a b} q e => q (by rw [e])
section
variable {P : Program} {n : Nat} {e : Nat → Option Value} {w : World} {α : Type} [DecidableEq α] {kv : α → Value} {vv : Nat → Value} {kt : TypeId}
/-- a map's length, by a list of what it tells. -/
theorem ro_mfLenL {t et r : Nat} {x : Operand} {f : α → Option Nat} {l : List (α × Nat)} (hx : evO n e x = some (.map (some r))) (ht : P.underlying t = some (.map kt et)) (hM : MF kv vv w.heap r f) (hn : l.Nodup) (hl : ∀ a p, f a = some p ↔ (a, p) ∈ l) :
    RO P n e w (.call ⟨.builtin .len, #[x], #[t]⟩) (i64c l.length) := by
  obtain ⟨l', h1, h2, h3⟩ := hM.ex
  have hp : l'.length = l.length := ((List.perm_ext_iff_of_nodup (fst_nd h2) hn).2 (fun a => by rw [← h3 a.1 a.2, hl a.1 a.2])).length_eq
  have := ro_lenM (P := P) (n := n) (e := e) hx ht h1
  rw [List.length_map, hp] at this
  exact this
theorem ro_mfGot {t et r : Nat} {x y : Operand} {a : α} {f : α → Option Nat} {z : Value} {p : Nat} (hK : KeyT P kt kv) (hx : evO n e x = some (.map (some r))) (hy : evO n e y = some (kv a)) (ht : P.underlying t = some (.map kt et)) (hz : ((P.info? et).bind (·.zero)) = some z) (hM : MF kv vv w.heap r f) (hf : f a = some p) :
    RO P n e w (.lookup t x y true) (.tuple #[vv p, .bool true]) := by
  have := ro_mfLook (n := n) (e := e) hK hx hy ht hz hM
  rw [hf] at this
  exact this
end
end Go.Proofs.Qxb6500568aGreatDoor
