import Derived.Test.Qxb6500568aGreatDoorFd
import Derived.Laws.CopyRow
namespace Go.Proofs.Qxb6500568aGreatDoor
set_option linter.unusedVariables false
set_option linter.unusedSimpArgs false

/-! copy between slices, elements of any size. -/

section
variable {P : Program} {n : Nat} {e : Nat → Option Value} {w : World} {ds : List Deferred} {ops : Array Oper} {Q : Exit → Act → World → Prop} {rest : List Oper} {ty : TypeId} {ps : String} {af : Array Edge} {d : Nat}

theorem run_cpy {t t' : TypeId} {x y : Operand} {u v r : Value} {w1 : World} (hx : evO n e x = some u) (hy : evO n e y = some v) (h : ∀ ty, (Builtin.copy_ #[t, t'] ty #[u, v]).run P w = .ok r w1) : EO P n e w (.call ⟨.builtin .copy, #[x, y], #[t, t']⟩) r w1 := by
  intro ds dst ty ps af g
  simp [execOp, resolve, evO_eval hx, evO_eval hy, invoke, builtin, h]

theorem eo_copy {t t' et k g od dLen dCap b os sLen sCap m : Nat} {x y : Operand} {l l2 cs : List Value} {t1 t2 : TypeId} (hx : evO n e x = some (.slice (some ⟨g, od, none⟩) dLen dCap)) (hy : evO n e y = some (.slice (some ⟨b, os, none⟩) sLen sCap)) (ht : selB P t et k = true)
    (hB : Blk w.heap g l t1) (hB2 : Blk w.heap b l2 t2) (hm : Nat.min sLen dLen = m) (hn : (l2.drop os).take (m * k) = cs) (hl : cs.length = m * k) (h1 : ∀ u ∈ cs, u.oneCell' = true) (hfit : od + m * k ≤ l.length) :
    EO P n e w (.call ⟨.builtin .copy, #[x, y], #[t, t']⟩) (i64c m) (w.setRow g (l.take od ++ cs ++ l.drop (od + m * k)).toArray) := by
  obtain ⟨u1, us⟩ := selB_spec ht
  refine run_cpy hx hy ?_
  intro ty
  unfold sizeB at us
  cases hi : P.info? et with
  | none => rw [hi] at us; simp at us
  | some i =>
    rw [hi] at us
    simp at us
    subst us
    have hsrc : ∀ j v, cs[j]? = some v → w.cell? ((⟨b, os, none⟩ : Addr).add j) = some v := by
      intro j u hu
      rw [addr_add, hB2.cell]
      rw [← hn, List.getElem?_take] at hu
      split at hu
      · rwa [List.getElem?_drop] at hu
      · cases hu
    have hld := run_loadCells_list (P := P) w ⟨b, os, none⟩ cs hsrc
    have hst := run_storeCells_at P g od t1 cs 0 l.toArray w hB (by simpa [hl] using hfit) h1
    rw [hl] at hld
    simp only [hl, Nat.add_zero] at hst
    have hm' : min sLen dLen = m := hm
    simp [Builtin.copy_, run_underlying u1, Builtin.lenOf, Builtin.firstCells, sizeOf, typeInfo, hi, hm', hld, hst, goInt, i64c]

/-- The cells behind a copy. -/
def cpf (f : Nat → Value) (od : Nat) (h : Nat → Value) (os m : Nat) : Nat → Value := fun j => if od ≤ j ∧ j < od + m then h (os + (j - od)) else f j

theorem cpf_in {f h : Nat → Value} {od os m j : Nat} (h1 : od ≤ j) (h2 : j < od + m) : cpf f od h os m j = h (os + (j - od)) := if_pos ⟨h1, h2⟩
theorem cpf_out {f h : Nat → Value} {od os m j : Nat} (h1 : j < od ∨ od + m ≤ j) : cpf f od h os m j = f j := if_neg (by omega)

theorem cpf_cel {f h : Nat → Value} {N od os m : Nat} (hf : od + m ≤ N) : (cel N f).take od ++ cel m (fun j => h (os + j)) ++ (cel N f).drop (od + m) = cel N (cpf f od h os m) := by
  rw [cel_seg cel_len hf]
  apply cel_congr
  intro j hj
  by_cases hc : od ≤ j ∧ j < od + m
  · rw [cpf_in hc.1 hc.2, show j = od + (j - od) by omega, pts_in (v := h (os + (j - od))) (by rw [cel_get (by omega)]), show od + (j - od) - od = j - od by omega]
  · rw [pts_out (by rw [cel_len]; omega), cpf_out (by omega)]

theorem eo_copyF {t t' et k g od dLen dCap b os sLen sCap m N N2 : Nat} {x y : Operand} {f h : Nat → Value} {t1 t2 : TypeId} (hx : evO n e x = some (.slice (some ⟨g, od, none⟩) dLen dCap)) (hy : evO n e y = some (.slice (some ⟨b, os, none⟩) sLen sCap)) (ht : selB P t et k = true)
    (hB : FB w.heap g N f t1) (hB2 : FB w.heap b N2 h t2) (hm : Nat.min sLen dLen = m) (h1 : ∀ j, j < m * k → (h (os + j)).oneCell' = true) (hfit : od + m * k ≤ N) (hs : os + m * k ≤ N2) :
    EO P n e w (.call ⟨.builtin .copy, #[x, y], #[t, t']⟩) (i64c m) (w.setRow g (cel N (cpf f od h os (m * k))).toArray) := by
  have := eo_copy (t' := t') hx hy ht hB hB2 hm (cel_sub hs) cel_len (by
    intro u hu
    simp only [cel, List.mem_map, List.mem_range] at hu
    obtain ⟨j, hj, rfl⟩ := hu
    exact h1 j hj) (by rw [cel_len]; exact hfit)
  rw [cpf_cel hfit] at this
  exact this

theorem wl_copy {t t' et k g od dLen dCap b os sLen sCap m N N2 : Nat} {x y : Operand} {f h : Nat → Value} {t1 t2 : TypeId} (hx : evO n e x = some (.slice (some ⟨g, od, none⟩) dLen dCap)) (hy : evO n e y = some (.slice (some ⟨b, os, none⟩) sLen sCap)) (ht : selB P t et k = true)
    (hB : FB w.heap g N f t1) (hB2 : FB w.heap b N2 h t2) (hm : Nat.min sLen dLen = m) (h1 : ∀ j, j < m * k → (h (os + j)).oneCell' = true) (hfit : od + m * k ≤ N) (hs : os + m * k ≤ N2)
    (K : ∀ w1, FB w1.heap g N (cpf f od h os (m * k)) t1 → Fram (one g) w w1 → WL P ops Q rest (Fr n (upd e d (i64c m)) ds) w1) :
    WL P ops Q (⟨some d, .call ⟨.builtin .copy, #[x, y], #[t, t']⟩, ty, ps, af, none⟩ :: rest) (Fr n e ds) w :=
  wle (eo_copyF hx hy ht hB hB2 hm h1 hfit hs) (K _ (hB.set _) (set_fram hB _))

theorem ql_copy {S : World → Prop} {last : Nat} {t t' et k g od dLen dCap b os sLen sCap m N N2 : Nat} {x y : Operand} {f h : Nat → Value} {t1 t2 : TypeId} (ho : ops[last]? = some ⟨some d, .call ⟨.builtin .copy, #[x, y], #[t, t']⟩, ty, ps, af, none⟩) (hx : evO n e x = some (.slice (some ⟨g, od, none⟩) dLen dCap)) (hy : evO n e y = some (.slice (some ⟨b, os, none⟩) sLen sCap)) (ht : selB P t et k = true)
    (hB : FB w.heap g N f t1) (hB2 : FB w.heap b N2 h t2) (hm : Nat.min sLen dLen = m) (h1 : ∀ j, j < m * k → (h (os + j)).oneCell' = true) (hfit : od + m * k ≤ N) (hs : os + m * k ≤ N2)
    (K : ∀ w1, FB w1.heap g N (cpf f od h os (m * k)) t1 → Fram (one g) w w1 → Q .normal (Fr n (upd e d (i64c m)) ds) w1) : WQ P ops Q S last [] (Fr n e ds) w :=
  ql_lastE ho (eo_copyF hx hy ht hB hB2 hm h1 hfit hs) (K _ (hB.set _) (set_fram hB _))

end
end Go.Proofs.Qxb6500568aGreatDoor
