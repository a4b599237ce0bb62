import Derived.Test.Qxb6500570aGreatQc
/- Plain: the history of a book. -/
namespace Go.Proofs.Qxb6500570aGreat
set_option linter.unusedVariables false
set_option linter.unusedSimpArgs false

/-- At most six commands can be undone. -/
def cutP (l : List (List Tx)) : List (List Tx) := if 6 < l.length then l.drop 1 else l
theorem hst_note {past next : List (List Tx)} {W T : List Tx} {k : Nat} (hk : k ≤ past.length) : hst (past ++ [W]) T [] k = hst past W next k := by
  unfold hst
  rw [List.getD_eq_getElem?_getD, List.getD_eq_getElem?_getD]
  congr 2
  rcases Nat.lt_or_ge k past.length with q | q
  · rw [List.append_assoc, List.getElem?_append_left q, List.getElem?_append_left q]
  · have : k = past.length := by omega
    subst this
    rw [List.getElem?_append_left (by simp), List.getElem?_append_right (by omega), List.getElem?_append_right (by omega)]
    simp
theorem hst_drop {l : List (List Tx)} {T : List Tx} {k : Nat} (hl : 0 < l.length) : hst (l.drop 1) T [] k = hst l T [] (k + 1) := by
  unfold hst
  rw [List.getD_eq_getElem?_getD, List.getD_eq_getElem?_getD]
  congr 2
  cases l with
  | nil => simp at hl
  | cons a l => simp
/-- The history before a new record is noted: W the texts ahead of it, u how many stay. -/
structure Hst (past : List (List Tx)) (W T : List Tx) (h : Nat → Nat → Tx) (u : Nat) : Prop where
  u6 : u < 6
  ln : (cutP (past ++ [W])).length = u + 1
  cur : h u = tF W
  eq : ∀ k, k ≤ u → h k = hst (cutP (past ++ [W])) T [] k
theorem Hst.small {past next : List (List Tx)} {W T : List Tx} (h : past.length < 6) : Hst past W T (hst past W next) past.length := by
  have e : cutP (past ++ [W]) = past ++ [W] := by unfold cutP; rw [if_neg (by simp; omega)]
  exact ⟨h, by rw [e]; simp, hst_cur, fun k hk => by rw [e]; exact (hst_note hk).symm⟩
theorem Hst.full {past next : List (List Tx)} {W T : List Tx} (h : past.length = 6) : Hst past W T (fun k => hst past W next (k + 1)) 5 := by
  have e : cutP (past ++ [W]) = (past ++ [W]).drop 1 := by unfold cutP; rw [if_pos (by simp; omega)]
  refine ⟨by omega, by rw [e]; simp; omega, ?_, fun k hk => ?_⟩
  · show hst past W next 6 = _
    rw [← h]; exact hst_cur
  · rw [e, hst_drop (by simp)]
    exact (hst_note (by omega)).symm
/-- The note itself. -/
theorem Hst.done {past : List (List Tx)} {W T : List Tx} {h : Nat → Nat → Tx} {u b : Nat} {P : List Tx} {M : List Nat} {L : Nat → Bool} (H : Hst past W T h u) (hR : Rg P M b L h) (hL : ∀ k, k < 6 → L k = decide (k < u)) :
    Rg (stP P ((b + u) % 6) (fun c => if tF W c = tF T c then [] else tF W c) (fun c => if tF W c = tF T c then [] else tF T c) 24) (M.set ((b + u) % 6) (mkM (tF W) (tF T) 24)) b (fun k => decide (k < (cutP (past ++ [W])).length + 0)) (hst (cutP (past ++ [W])) T []) := by
  have hu := H.u6
  have := hR.note (B := tF T) hu hL
  rw [H.cur] at this
  refine this.congr (fun k hk => by rw [H.ln]) (fun k hk hl c hc => ?_)
  have hk' : k < u + 1 := of_decide_eq_true hl
  simp only [if_pos (show k ≤ u by omega)]
  refine ⟨by rw [H.eq k (by omega)], ?_⟩
  by_cases q : k + 1 ≤ u
  · simp only [if_pos q]; rw [H.eq (k + 1) q]
  · simp only [if_neg q]
    have : k + 1 = (cutP (past ++ [W])).length := by rw [H.ln]; omega
    rw [this, hst_cur]
end Go.Proofs.Qxb6500570aGreat
