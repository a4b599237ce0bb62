import Derived.Test.Qxb6500569aGreatHa
import Derived.Test.Qxb6500569aGreatFm
import Derived.Lib.AppendStr
/- A string's bytes behind a slice of one's own. -/
namespace Go.Proofs.Qxb6500569aGreat
set_option linter.unusedVariables false
set_option linter.unusedSimpArgs false

section
variable {P : Program} {n : Nat} {e : Nat → Option Value} {ds : List Deferred} {w : World} {ops : Array Oper} {Q : Exit → Act → World → Prop} {rest : List Oper} {d : Nat} {ty : TypeId} {ps : String} {af : Array Edge}

theorem app_str {t u et base m : Nat} {x y : Operand} {v : Value} {xs : List Value} {s : List UInt8} (hx : evO n e x = some v) (hy : evO n e y = some (S s)) (ht : selB P t et 1 = true) (hu : strB P u = true) (hz : (P.info? et).bind (·.zero) = some (.int .u8 0))
    (hby : (P.info? et).any (fun i => i.bytes == 1) = true) (hown : Own w.heap v et 1 m xs) (hloc : ∀ b, v.ownBlock = some b → base ≤ b) (hbase : base ≤ w.heap.size) (hmax : m + s.length ≤ 1000000) :
    ∃ v' w', EO P n e w (.call ⟨.builtin .append, #[x, y], #[t, u]⟩) v' w' ∧ Own w'.heap v' et 1 (m + s.length) (xs ++ s.map u8c) ∧ w.grownBy w' v.ownBlock ∧ (∀ b, v'.ownBlock = some b → base ≤ b) := by
  obtain ⟨t1, ts⟩ := selB_spec ht
  unfold sizeB at ts
  cases z1 : P.info? et with
  | none => rw [z1] at hz; cases hz
  | some i =>
  rw [z1] at ts hby hz
  simp at ts hby hz
  have hown' : w.ownsRow base et 1 v m xs := by
    refine ⟨hown.1, ?_⟩
    rcases hown.2 with h2 | ⟨g, cap, l, h1, h2, h3, h4, h5, h6⟩
    · exact .inl h2
    · exact .inr ⟨g, cap, l.toArray, h1, hloc g (by rw [h1]; rfl), h2, h3, by simp only [maxLen]; omega, by simpa using h5, by simpa using h6⟩
  have key : ∀ ty, ∃ v' w', (Builtin.append_ #[t, u] ty #[v, .string ⟨s.toArray⟩]).run P w = .ok v' w' ∧ w'.ownsRow base et 1 v' (m + s.length) (xs ++ s.map u8c) ∧ w.grownBy w' v.ownBlock := by
    intro ty
    obtain ⟨v', w', h1, h2, h3, _⟩ := Lib.run_append_own_string (P := P) w base t u ty et i t1 (strB_spec hu) z1 hz ts hby v m xs hown' ⟨s.toArray⟩ (by simp only [maxLen, ByteArray.size, List.size_toArray]; omega) (by simp only [ByteArray.size, List.size_toArray]; omega) hbase
    refine ⟨v', w', h1, ?_, h3⟩
    have e1 : Lib.strCells ⟨s.toArray⟩ = s.map u8c := rfl
    rw [← e1]
    simpa [ByteArray.size] using h2
  obtain ⟨v', w', h1, h2, h3⟩ := key 0
  refine ⟨v', w', ?_, ?_, h3, ?_⟩
  · intro ds dst ty ps af g
    have : (Builtin.append_ #[t, u] ty #[v, .string ⟨s.toArray⟩]) = (Builtin.append_ #[t, u] 0 #[v, .string ⟨s.toArray⟩]) := rfl
    have h1' := h1
    rw [← this] at h1'
    simp only [S] at hy
    simp [execOp, resolve, evO_eval hx, evO_eval hy, invoke, builtin, h1']
  · refine ⟨h2.1, ?_⟩
    rcases h2.2 with h2 | ⟨g, cap, cur, h1, _, h2, h3, h4, h5, h6⟩
    · exact .inl h2
    · exact .inr ⟨g, cap, cur.toList, h1, by unfold Blk; simpa using h2, h3, by simp only [maxLen] at h4; omega, by simpa using h5, by simpa using h6⟩
  · intro b hb
    rcases h2.2 with ⟨h2, _⟩ | ⟨g, cap, cur, h1, hg, h2, h3, h4, h5, h6⟩
    · rw [h2] at hb; cases hb
    · rw [h1] at hb; cases hb; exact hg

end
end Go.Proofs.Qxb6500569aGreat
