import Derived.Test.Qxb6500568aGreatDoorFt
import Derived.Test.Qxb6500568aGreatDoorFg
import Derived.Test.Qxb6500568aGreatDoorFb
/- Library: a region of any order that calls, and lays the answer into a new block. -/
namespace Go.Proofs.Qxb6500568aGreatDoor
set_option linter.unusedVariables false
set_option linter.unusedSimpArgs false
section
variable {P : Program} {ops : Array Oper} {Q : Exit → Act → World → Prop} {S : World → Prop} {last : Nat} {n : Nat} {e : Nat → Option Value} {w : World}

theorem upd_at (e : Nat → Option Value) (d : Nat) (v : Value) : upd e d v d = some v := by
  unfold upd
  rw [Nat.beq_refl]
  rfl
theorem upd_no {e : Nat → Option Value} {d k : Nat} {v : Value} (h : k ≠ d) : upd e d v k = e k := by
  unfold upd
  cases hb : Nat.beq k d with
  | true => exact absurd (Nat.eq_of_beq_eq_true hb) h
  | false => rfl
theorem upd_swap {e : Nat → Option Value} {d1 d2 : Nat} {v1 v2 : Value} (h : d1 ≠ d2) : upd (upd e d2 v2) d1 v1 = upd (upd e d1 v1) d2 v2 := by
  funext k
  by_cases h1 : k = d1
  · subst h1
    rw [upd_at, upd_no h, upd_at]
  · by_cases h2 : k = d2
    · subst h2
      rw [upd_no h1, upd_at, upd_at]
    · rw [upd_no h1, upd_no h2, upd_no h2, upd_no h1]
theorem evO_tmp {e : Nat → Option Value} {d : Nat} (h : d < n) : evO n e (.tmp d) = e d := by
  have : Nat.blt d n = true := by simpa using h
  simp [evO, this]

theorem wf_cn {i j d1 d2 m : Nat} {t f : Nat} {z : List Value} {args : List Operand} {ats : Array TypeId} {vs : List Value} {R : Value → World → Prop} {G : Nat → Prop} {ty1 ty2 ty3 : TypeId} {ps1 ps2 ps3 : String} {af1 af2 af3 : Array Edge}
    (hi : ops[i]? = some ⟨some d1, .call ⟨.value (.func f), args.toArray, ats⟩, ty1, ps1, af1, none⟩)
    (hj : ops[j]? = some ⟨some d2, .alloc t, ty2, ps2, af2, none⟩)
    (hl : ops[last]? = some ⟨none, .store t (.tmp d2) (.tmp d1), ty3, ps3, af3, none⟩)
    (hd : d1 ≠ d2) (hd1 : d1 < n) (hd2 : d2 < n) (ha : evArgs n e args = some vs) (ha2 : ∀ v, evArgs n (upd e d2 v) args = some vs) (hf : Enters P f) (hz : zeroB P t z) (hsz : sizeB P t m = true) (hzl : z.length = m)
    (hc : ∀ w1, Fram none' w w1 → Ret P f vs w1 (fun v u => R v u ∧ Fram G w1 u))
    (hst : ∀ v u u', R v u → Fram none' u u' → R v u')
    (hG : ∀ b, G b → b < w.heap.size)
    (hv : ∀ v u, R v u → ∃ cs : List Value, v = .agg cs.toArray ∧ cs.length = m ∧ ∀ x ∈ cs, x.oneCell' = true)
    (hS : ∀ u, Fram none' w u → S u) (hS2 : ∀ v u, R v u → S u) (hsz2 : ∀ v u, R v u → w.heap.size ≤ u.heap.size)
    (k : ∀ (cs : List Value) (u : World) (b : Nat) (u' : World), R (.agg cs.toArray) u → cs.length = m → w.heap.size ≤ b → Blk u.heap b z t → Blk u'.heap b cs t → Fram (one b) u u' → Q .normal (Fr n (upd (upd e d1 (.agg cs.toArray)) d2 (ptr b)) []) u') :
    WFk P ops Q S last i j [(j, true)] [(i, true)] [] (Fr n e []) w := by
  refine wf_fork ?_ ?_
  · refine ql_call hi ha hf (hc w (Fram.refl _ _)) ?_
    rintro v u ⟨hR, hFr⟩
    obtain ⟨cs, rfl, hcl, hco⟩ := hv v u hR
    refine ⟨hS2 _ _ hR, ?_⟩
    refine ql_new hj hz (fun w1 F => hS2 _ _ (hst _ _ _ hR F)) (fun b w1 hb hB F => ?_)
    have hsu := hsz2 _ _ hR
    refine ql_puta hl (i := 0) (b := b) (cs := cs) ?_ ?_ hco hsz hcl hB (by omega) (l' := cs) ?_ (fun w2 hB2 F2 => ?_)
    · rw [evO_tmp hd2, upd_at]; rfl
    · rw [evO_tmp hd1, upd_no hd, upd_at]
    · simp only [List.take_zero, List.nil_append, Nat.zero_add]
      rw [List.drop_eq_nil_of_le (by omega), List.append_nil]
    · exact k cs w1 b w2 (hst _ _ _ hR F) hcl (by omega) hB hB2 F2
  · refine ql_new hj hz (fun w1 F => hS _ F) (fun b w1 hb hB F => ?_)
    refine ql_call hi (ha2 _) hf (hc w1 F) ?_
    rintro v u ⟨hR, hFr⟩
    obtain ⟨cs, rfl, hcl, hco⟩ := hv v u hR
    refine ⟨hS2 _ _ hR, ?_⟩
    have hB' : Blk u.heap b z t := hB.fram hFr (fun h => by have := hG b h; omega)
    refine ql_puta hl (i := 0) (b := b) (cs := cs) ?_ ?_ hco hsz hcl hB' (by omega) (l' := cs) ?_ (fun w2 hB2 F2 => ?_)
    · rw [evO_tmp hd2, upd_no hd.symm, upd_at]; rfl
    · rw [evO_tmp hd1, upd_at]
    · simp only [List.take_zero, List.nil_append, Nat.zero_add]
      rw [List.drop_eq_nil_of_le (by omega), List.append_nil]
    · rw [upd_swap hd]
      exact k cs u b w2 hR hcl (by omega) hB' hB2 F2
end
theorem Blk.ne_type {H : Array Obj} {a b : Nat} {l m : List Value} {t u : TypeId} (h : Blk H a l t) (g : Blk H b m u) (hn : t ≠ u) : a ≠ b := by
  rintro rfl
  have e := h.symm.trans g
  injection e with e
  injection e with _ e
  exact hn e

end Go.Proofs.Qxb6500568aGreatDoor
