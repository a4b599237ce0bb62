import Derived.Test.Qxb6500568aGreatDoorJg
import Derived.Lib.AppendStr
/- A string's bytes behind a slice of one's own. -/
namespace Go.Proofs.Qxb6500568aGreatDoor
set_option linter.unusedVariables false
set_option linter.unusedSimpArgs false
set_option linter.unusedSectionVars false

section
variable {P : Program} {n : Nat} {e : Nat → Option Value} {ds : List Deferred} {w : World} {ops : Array Oper} {Q : Exit → Act → World → Prop} {rest : List Oper} {d : Nat} {ty : TypeId} {ps : String} {af : Array Edge}

theorem app_str {t u et m : Nat} {x y : Operand} {v : Value} {xs : List Value} {s : List UInt8} (hx : evO n e x = some v) (hy : evO n e y = some (S s)) (ht : selB P t et 1 = true) (hu : strB P u = true) (hz : (P.info? et).bind (·.zero) = some (.int .u8 0))
    (hby : (P.info? et).any (fun i => i.bytes == 1) = true) (hown : Own w.heap v et 1 m xs) (hmax : m + s.length ≤ 1000000) :
    ∃ v' w', EO P n e w (.call ⟨.builtin .append, #[x, y], #[t, u]⟩) v' w' ∧ Own w'.heap v' et 1 (m + s.length) (xs ++ s.map u8c) ∧ Fram (own1 v) w w' ∧ nob v v' w := by
  obtain ⟨t1, ts⟩ := selB_spec ht
  unfold sizeB at ts
  cases z1 : P.info? et with
  | none => rw [z1] at hz; cases hz
  | some i =>
  rw [z1] at ts hby hz
  simp at ts hby hz
  have hown' : w.ownsRow 0 et 1 v m xs := by
    refine ⟨hown.1, ?_⟩
    rcases hown.2 with h2 | ⟨g, cap, l, h1, h2, h3, h4, h5, h6⟩
    · exact .inl h2
    · exact .inr ⟨g, cap, l.toArray, h1, Nat.zero_le _, h2, h3, by simp only [maxLen]; omega, by simpa using h5, by simpa using h6⟩
  have key : ∀ ty, ∃ v' w', (Builtin.append_ #[t, u] ty #[v, .string ⟨s.toArray⟩]).run P w = .ok v' w' ∧ w'.ownsRow 0 et 1 v' (m + s.length) (xs ++ s.map u8c) ∧ w.grownBy w' v.ownBlock ∧ (v' = .slice none 0 0 ↔ v = .slice none 0 0 ∧ s.length = 0) := by
    intro ty
    obtain ⟨v', w', h1, h2, h3, h4⟩ := Lib.run_append_own_string (P := P) w 0 t u ty et i t1 (strB_spec hu) z1 hz ts hby v m xs hown' ⟨s.toArray⟩ (by simp only [maxLen, ByteArray.size, List.size_toArray]; omega) (by simp only [ByteArray.size, List.size_toArray]; omega) (Nat.zero_le _)
    refine ⟨v', w', h1, ?_, h3, by simpa [ByteArray.size] using h4⟩
    have e1 : Lib.strCells ⟨s.toArray⟩ = s.map u8c := rfl
    rw [← e1]
    simpa [ByteArray.size] using h2
  obtain ⟨v', w', h1, h2, h3, h4⟩ := key 0
  refine ⟨v', w', ?_, ?_, Fram.grown h3 (fun k hk => .inl hk), ?_⟩
  · intro ds dst ty ps af g
    have : (Builtin.append_ #[t, u] ty #[v, .string ⟨s.toArray⟩]) = (Builtin.append_ #[t, u] 0 #[v, .string ⟨s.toArray⟩]) := rfl
    have h1' := h1
    rw [← this] at h1'
    simp only [S] at hy
    simp [execOp, resolve, evO_eval hx, evO_eval hy, invoke, builtin, h1']
  · refine ⟨h2.1, ?_⟩
    rcases h2.2 with h2 | ⟨g, cap, cur, h1, _, h2, h3, h4, h5, h6⟩
    · exact .inl h2
    · exact .inr ⟨g, cap, cur.toList, h1, by unfold Blk; simpa using h2, h3, by simp only [maxLen] at h4; omega, by simpa using h5, by simpa using h6⟩
  · intro b hb
    have hxl : xs.length = m := by simpa using hown.1
    rcases hown'.2 with ⟨hv0, hm0⟩ | ⟨g, cap, cur, hv0, hbg, hg, hnc, hcm, hcs, htake⟩
    · subst hv0
      by_cases hm : s.length = 0
      · rw [h4.2 ⟨rfl, hm⟩] at hb; cases hb
      · have hr := run_append_nil_string (P := P) w t u 0 et i (.int .u8 0) t1 (strB_spec hu) z1 hz ⟨s.toArray⟩ (by simp [ByteArray.size]; omega) (by simp [ByteArray.size]; omega) (by rw [hby]; simp [ByteArray.size]; omega)
        rw [h1] at hr
        injection hr with e1 e2
        rw [e1] at hb
        cases hb
        exact .inr (Nat.le_refl _)
    · subst hv0
      by_cases hroom : m + s.length ≤ cap
      · have hr := Lib.run_append_room_string (P := P) w t u 0 et i t1 (strB_spec hu) z1 ts g m cap cur hg ⟨s.toArray⟩ (by simpa [ByteArray.size] using hroom) (by have : cur.size = cap := by simpa using hcs
                                                                                                                                                                   simp [ByteArray.size]; omega)
        rw [h1] at hr
        injection hr with e1 e2
        rw [e1] at hb
        cases hb
        exact .inl rfl
      · have holds : ∀ j u, xs[j]? = some u → w.cell? ((⟨g, 0, none⟩ : Addr).add j) = some u := hown'.cells (g := g) rfl
        have hr := Lib.run_append_grow_string (P := P) w t u 0 et i (.int .u8 0) t1 (strB_spec hu) z1 hz ⟨g, 0, none⟩ m cap xs (by rw [ts]; simpa using hxl) holds ⟨s.toArray⟩ (by simp [ByteArray.size]; omega) (by simp [ByteArray.size]; omega) (by rw [hby]; exact growslice_fits (by simp [ByteArray.size]; omega) (by simp [ByteArray.size]; omega))
        rw [h1] at hr
        injection hr with e1 e2
        rw [e1] at hb
        cases hb
        exact .inr (Nat.le_refl _)
end
end Go.Proofs.Qxb6500568aGreatDoor
