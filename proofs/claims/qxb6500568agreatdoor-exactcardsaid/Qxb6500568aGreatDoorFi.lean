import Derived.Test.Qxb6500568aGreatDoorFh
/- Library: a region of any order whose last operation hangs on the others by longer chains. -/
namespace Go.Proofs.Qxb6500568aGreatDoor
set_option linter.unusedVariables false
set_option linter.unusedSimpArgs false
variable {P : Program} {ops : Array Oper} {Q : Exit → Act → World → Prop} {md : Region.Mode} {S : World → Prop} {last : Nat}

theorem wpAnyL_first9 {i : Nat} {oi : Oper} {v : Value} (hi : ops[i]? = some oi) (hsel : ∀ (j : Nat) (o : Oper) cs b, ops[j]? = some o → o.op ≠ .select cs b) (hil : i ≠ last) (hdep : depB md ops 9 last i = true)
    (hQ : ∀ c a w, Q (.panic c) (a.put oi.dst v) w → Q (.panic c) a w) :
    ∀ (fuel : Nat) (listed : Array Bool) (a : Act) (w : World), Cl md ops listed →
      (∀ j oj, ops[j]? = some oj → j ≠ i → listed.getD j true = false → (∀ e ∈ oj.after, Region.binds md e = true → e.on ≠ i) → oi.apart ops oj = true) →
      i ∈ Region.ready md ops listed → YieldsIf P ops S oi v a → S w →
      wpAnyL P md ops Q S last fuel (listed.setIfInBounds i true) (a.put oi.dst v) w → wpAnyL P md ops Q S last (fuel + 1) listed a w := by
  intro fuel
  induction fuel with
  | zero =>
    intro listed a w _ _ hr hy hS H
    refine ⟨fun h => (by rw [h] at hr; cases hr), fun j hj => ?_⟩
    by_cases hji : j = i
    · subst hji; exact hy.wpOp hi hS ⟨fun _ => hS, H⟩
    · have := ready_mono hj hji
      rw [H.1] at this
      cases this
  | succ fuel ih =>
    intro listed a w hcl hfree hr hy hS H
    refine ⟨fun h => (by rw [h] at hr; cases hr), fun j hj => ?_⟩
    by_cases hji : j = i
    · subst hji; exact hy.wpOp hi hS ⟨fun _ => hS, H⟩
    · have h1 := H.2 j (ready_mono hj hji)
      obtain ⟨hjun, oj, hoj, hall⟩ := mem_ready.1 hj
      have hiun : listed.getD i false = false := by
        have h0 := (mem_ready.1 hr).1
        rcases Nat.lt_or_ge i listed.size with h' | h'
        · simp [h'] at h0 ⊢; exact h0
        · simp [Array.getElem?_eq_none h']
      have hjl : j ≠ last := by
        intro e
        subst e
        have := dep_listed hcl 9 j i hdep (fun o ho e he hb => by rw [hoj] at ho; cases ho; exact hall e he hb)
        rw [hiun] at this
        cases this
      have hnot : ∀ e ∈ oj.after, Region.binds md e = true → e.on ≠ i := fun e he hb heq => by
        have h1 := hall e he hb
        rw [heq, hiun] at h1
        cases h1
      have h2 := wpOp_putIf hoj (hfree j oj hoj hji hjun hnot) (fun cs b => hsel i oi cs b hi) (fun cs b => hsel j oj cs b hoj) hQ hy h1
      have hfree' : ∀ k ok, ops[k]? = some ok → k ≠ i → (listed.setIfInBounds j true).getD k true = false →
          (∀ e ∈ ok.after, Region.binds md e = true → e.on ≠ i) → oi.apart ops ok = true := fun k ok hk hki hun hno => by
        refine hfree k ok hk hki ?_ hno
        by_cases hjk : j = k
        · subst hjk; exact hjun
        · rw [getD_set_ne true hjk] at hun; exact hun
      refine wpOp_mono (fun a' w' h3 => ⟨h3.2.1, ih (listed.setIfInBounds j true) a' w' (cl_set hcl hj) hfree' (ready_mono hr (Ne.symm hji)) h3.1 (h3.2.1 hjl) ?_⟩) h2
      rw [Array.setIfInBounds_comm _ _ hji]
      exact h3.2.2

def piLOK9 (md : Region.Mode) (ops : Array Oper) (last : Nat) : List (Nat × Bool) → Array Bool → Bool
  | [], listed => (Region.ready md ops listed == [last]) && (Region.ready md ops (listed.setIfInBounds last true)).isEmpty
  | (i, false) :: r, listed => (i != last) && depB md ops 9 last i && Region.free md ops listed i && (Region.ready md ops listed).contains i && piLOK9 md ops last r (listed.setIfInBounds i true)
  | (i, true) :: r, listed => (i != last) && (Region.ready md ops listed == [i]) && piLOK9 md ops last r (listed.setIfInBounds i true)

theorem piL_sound9 (hs : Region.noSelect ops = true) (hQ : PanOk Q) : ∀ (π : List (Nat × Bool)) (fuel : Nat) (listed : Array Bool) (a : Act) (w : World), π.length + 1 ≤ fuel → Cl md ops listed → piLOK9 md ops last π listed = true → S w → piL P ops Q S last π a w → wpAnyL P md ops Q S last fuel listed a w
  | [], fuel, listed, a, w, hf, hcl, hk, hS, h => by
    simp only [piLOK9, Bool.and_eq_true, beq_iff_eq, List.isEmpty_iff] at hk
    cases fuel with
    | zero => simp at hf
    | succ fuel =>
      refine ⟨fun h0 => (by rw [hk.1] at h0; cases h0), fun i hi => ?_⟩
      rw [hk.1] at hi
      have : i = last := by simpa using hi
      subst this
      refine wpOp_mono (fun a' w' h' => ⟨fun hne => absurd rfl hne, ?_⟩) h
      cases fuel with
      | zero => exact ⟨hk.2, h'⟩
      | succ fuel => exact ⟨fun _ => h', fun j hj => by rw [hk.2] at hj; cases hj⟩
  | (i, false) :: r, fuel, listed, a, w, hf, hcl, hk, hS, h => by
    obtain ⟨o, v, hi, hy, hr⟩ := h
    simp only [piLOK9, Bool.and_eq_true, bne_iff_ne, ne_eq] at hk
    obtain ⟨⟨⟨⟨k1, k2⟩, k3⟩, k4⟩, k5⟩ := hk
    have hir : i ∈ Region.ready md ops listed := by simpa using k4
    cases fuel with
    | zero => simp at hf
    | succ fuel =>
      refine wpAnyL_first9 hi (Region.noSelect_spec hs) k1 k2 (fun c a' w' hp => hQ c _ _ w' (put_defers_eq a' o.dst v) hp) fuel listed a w hcl (Region.free_spec hi k3) hir hy hS ?_
      exact piL_sound9 hs hQ r fuel _ _ w (by simpa using hf) (cl_set hcl hir) k5 hS hr
  | (i, true) :: r, fuel, listed, a, w, hf, hcl, hk, hS, h => by
    simp only [piLOK9, Bool.and_eq_true, beq_iff_eq, bne_iff_ne, ne_eq] at hk
    obtain ⟨⟨k1, k2⟩, k3⟩ := hk
    cases fuel with
    | zero => simp at hf
    | succ fuel =>
      refine ⟨fun h0 => (by rw [k2] at h0; cases h0), fun j hj => ?_⟩
      have hir : i ∈ Region.ready md ops listed := by rw [k2]; simp
      rw [k2] at hj
      have : j = i := by simpa using hj
      subst this
      exact wpOp_mono (fun a' w' h' => ⟨fun _ => h'.1, piL_sound9 hs hQ r fuel _ a' w' (by simpa using hf) (cl_set hcl hir) k3 h'.1 h'.2⟩) h

theorem c_piL9 {id : Nat} {a : Act} {w : World} (last : Nat) (π : List (Nat × Bool)) (S : World → Prop) (hm : P.follows .mixedOrders = true) (hs : Region.noSelect ops = true) (hl : Nat.ble (π.length + 1) ops.size = true)
    (hk : piLOK9 .any ops last π (Array.replicate ops.size false) = true) (hQ : PanOk Q) (hS : S { w with drawn := w.drawn + 1 }) (h : WQ P ops Q S last π a { w with drawn := w.drawn + 1 }) : WC P (Code.region id ops true) Q a w :=
  ⟨wp_region_any hm (wpAny_of_L _ _ _ _ (piL_sound9 hs hQ π _ _ _ _ (by simpa using hl) (fun i o _ hl => by
    rcases Nat.lt_or_ge i ops.size with h' | h'
    · simp [h'] at hl
    · simp [h'] at hl) hk hS h.out))⟩

end Go.Proofs.Qxb6500568aGreatDoor
