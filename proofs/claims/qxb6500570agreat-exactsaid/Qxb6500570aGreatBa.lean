import Derived.Test.Qxb6500570aGreatPg
import Derived.Test.Qxb6500570aGreatFl
import Derived.Test.Qxb6500570aGreatFt
import Derived.Test.Qxb6500570aGreatFk
import Derived.Test.Qxb6500570aGreatFj
import Derived.Test.Qxb6500570aGreatHa
/- The real former: tokens. -/
namespace Go.Proofs.Qxb6500570aGreat
set_option linter.unusedVariables false
set_option linter.unusedSimpArgs false

abbrev icv (x : Int) : Value := .int .i64 x
abbrev refc (r : Rf) : List Value := [icv r.c, icv r.r, .bool r.ac, .bool r.ar]
abbrev ndc (x : Nd) : List Value := [icv x.k, icv x.o, icv x.a, icv x.b, icv x.n, icv x.p.c, icv x.p.r, .bool x.p.ac, .bool x.p.ar, icv x.q.c, icv x.q.r, .bool x.q.ac, .bool x.q.ar]
abbrev tkc (a e : Nat) (t : Tk) : List Value := [i64c t.k, i64c a, i64c e, i64c t.o, i64c t.n, icv t.r.c, icv t.r.r, .bool t.r.ac, .bool t.r.ar]
theorem tkc_cells (a e : Nat) (t : Tk) : ∀ u ∈ tkc a e t, u.oneCell' = true := by
  intro u hu
  simp only [tkc, List.mem_cons, List.not_mem_nil, or_false] at hu
  rcases hu with rfl | rfl | rfl | rfl | rfl | rfl | rfl | rfl | rfl <;> rfl
theorem ndc_cells (x : Nd) : ∀ u ∈ ndc x, u.oneCell' = true := by
  intro u hu
  simp only [ndc, List.mem_cons, List.not_mem_nil, or_false] at hu
  rcases hu with rfl | rfl | rfl | rfl | rfl | rfl | rfl | rfl | rfl | rfl | rfl | rfl | rfl <;> rfl

theorem dg_iff {c : UInt8} : dg c = true ↔ 48 ≤ c.toNat ∧ c.toNat ≤ 57 := by simp [dg]
theorem dg_not {c : UInt8} : dg c = false ↔ ¬ (48 ≤ c.toNat ∧ c.toNat ≤ 57) := by rw [← dg_iff]; simp
theorem cp_iff {c : UInt8} : cp c = true ↔ 65 ≤ c.toNat ∧ c.toNat ≤ 90 := by simp [cp]
theorem cp_not {c : UInt8} : cp c = false ↔ ¬ (65 ≤ c.toNat ∧ c.toNat ≤ 90) := by rw [← cp_iff]; simp
theorem d1_iff {c : UInt8} : d1 c = true ↔ 49 ≤ c.toNat ∧ c.toNat ≤ 57 := by simp [d1]
theorem d1_not {c : UInt8} : d1 c = false ↔ ¬ (49 ≤ c.toNat ∧ c.toNat ≤ 57) := by rw [← d1_iff]; simp
theorem u8_eq {c : UInt8} {n : Nat} (hn : n < 256) : c = UInt8.ofNat n ↔ c.toNat = n := by
  constructor
  · rintro rfl; simp; omega
  · intro h
    apply UInt8.toNat_inj.1
    rw [h]; simp; omega
theorem c36 {c : UInt8} : c = 36 ↔ c.toNat = 36 := u8_eq (n := 36) (by omega)
theorem wy_iff {c : UInt8} : wy c = true ↔ (65 ≤ c.toNat ∧ c.toNat ≤ 90) ∨ (48 ≤ c.toNat ∧ c.toNat ≤ 57) ∨ c.toNat = 36 := by
  unfold wy
  rw [Bool.or_eq_true, Bool.or_eq_true, cp_iff, dg_iff, beq_iff_eq, c36, or_assoc]
theorem wy_not {c : UInt8} : wy c = false ↔ ¬ ((65 ≤ c.toNat ∧ c.toNat ≤ 90) ∨ (48 ≤ c.toNat ∧ c.toNat ≤ 57) ∨ c.toNat = 36) := by rw [← wy_iff]; simp

theorem digit150 {w : World} {c : UInt8} : Ret Tryz.prog 150 [u8c c] w (fun v w' => v = .bool (dg c) ∧ w' = w) := by
  refine ret_of Tryz.func150 rfl Tryz.ntmps150 rfl ?_
  refine c_seq (fun K1 hK1 => ?_)
  refine c_reg ?_ -- region 0 scan.go:26
  refine wl (ro_assign rfl) ?_
  refine wl_nil (x_then (hK1 _ _ ?_))
  clear hK1 K1
  refine forget [(0, _)] ⟨rfl, trivial⟩ (fun e => ?_)
  refine c_seq (fun K2 hK2 => ?_)
  have hq : c.toNat < 48 ∨ (48 ≤ c.toNat ∧ c.toNat ≤ 57) ∨ (48 ≤ c.toNat ∧ 57 < c.toNat) := by omega
  rcases hq with q | q | q
  · skip
    refine c_reg ?_ -- region 1 scan.go:26
    refine wl (ro_move rfl) ?_
    refine wl (ro_cmp (r := false) rfl rfl (congrArg some (decide_eq_false (by omega)))) ?_
    refine wl (ro_move rfl) ?_
    refine wlg_no rfl ?_
    refine wlg_no rfl ?_
    refine wl (ro_pick rfl rfl rfl) ?_
    refine wl (ro_assign rfl) ?_
    refine wl_nil (x_then (hK2 _ _ ?_))
    clear hK2 K2
    refine c_ret ?_
    refine bp_ret Tryz.results150 rfl ?_
    exact ⟨by rw [dg_not.2 (by omega)]; rfl, rfl⟩
  · skip
    refine c_reg ?_ -- region 1 scan.go:26
    refine wl (ro_move rfl) ?_
    refine wl (ro_cmp (r := true) rfl rfl (congrArg some (decide_eq_true (by omega)))) ?_
    refine wl (ro_move rfl) ?_
    refine wlg_yes rfl (ro_move rfl) ?_
    refine wlg_yes rfl (ro_cmp (r := true) rfl rfl (congrArg some (decide_eq_true (by omega)))) ?_
    refine wl (ro_pick rfl rfl rfl) ?_
    refine wl (ro_assign rfl) ?_
    refine wl_nil (x_then (hK2 _ _ ?_))
    clear hK2 K2
    refine c_ret ?_
    refine bp_ret Tryz.results150 rfl ?_
    exact ⟨by rw [dg_iff.2 (by omega)]; rfl, rfl⟩
  · skip
    refine c_reg ?_ -- region 1 scan.go:26
    refine wl (ro_move rfl) ?_
    refine wl (ro_cmp (r := true) rfl rfl (congrArg some (decide_eq_true (by omega)))) ?_
    refine wl (ro_move rfl) ?_
    refine wlg_yes rfl (ro_move rfl) ?_
    refine wlg_yes rfl (ro_cmp (r := false) rfl rfl (congrArg some (decide_eq_false (by omega)))) ?_
    refine wl (ro_pick rfl rfl rfl) ?_
    refine wl (ro_assign rfl) ?_
    refine wl_nil (x_then (hK2 _ _ ?_))
    clear hK2 K2
    refine c_ret ?_
    refine bp_ret Tryz.results150 rfl ?_
    exact ⟨by rw [dg_not.2 (by omega)]; rfl, rfl⟩

theorem wordy152 {w : World} {c : UInt8} : Ret Tryz.prog 152 [u8c c] w (fun v w' => v = .bool (wy c) ∧ w' = w) := by
  refine ret_of Tryz.func152 rfl Tryz.ntmps152 rfl ?_
  refine c_seq (fun K1 hK1 => ?_)
  refine c_reg ?_ -- region 0 scan.go:29
  refine wl (ro_assign rfl) ?_
  refine wl_nil (x_then (hK1 _ _ ?_))
  clear hK1 K1
  refine forget [(0, _)] ⟨rfl, trivial⟩ (fun e => ?_)
  refine c_seq (fun K2 hK2 => ?_)
  have hq : (c.toNat < 48 ∧ c.toNat = 36) ∨ (c.toNat < 48 ∧ c.toNat ≠ 36) ∨ (48 ≤ c.toNat ∧ c.toNat ≤ 57) ∨ (57 < c.toNat ∧ c.toNat < 65) ∨ (65 ≤ c.toNat ∧ c.toNat ≤ 90) ∨ (65 ≤ c.toNat ∧ 90 < c.toNat) := by omega
  rcases hq with q | q | q | q | q | q
  · skip
    refine c_reg ?_ -- region 1 scan.go:29
    refine wl (ro_move rfl) ?_
    refine wl (ro_cmp (r := false) rfl rfl (congrArg some (decide_eq_false (by omega)))) ?_
    refine wl (ro_move rfl) ?_
    refine wlg_no rfl ?_
    refine wlg_no rfl ?_
    refine wl (ro_pick rfl rfl rfl) ?_
    refine wl (ro_move rfl) ?_
    refine wlg_yes rfl (ro_move rfl) ?_
    refine wlg_yes rfl (ro_cmp (r := false) rfl rfl (congrArg some (decide_eq_false (by omega)))) ?_
    refine wlg_yes rfl (ro_move rfl) ?_
    refine wlg_no rfl ?_
    refine wlg_no rfl ?_
    refine wlg_yes rfl (ro_pick rfl rfl rfl) ?_
    refine wl (ro_pick rfl rfl rfl) ?_
    refine wl (ro_move rfl) ?_
    refine wlg_yes rfl (ro_move rfl) ?_
    refine wlg_yes rfl (ro_cmp (r := true) rfl rfl (congrArg some ((beqc c.toNat 36).trans (decide_eq_true (by omega))))) ?_
    refine wl (ro_pick rfl rfl rfl) ?_
    refine wl (ro_assign rfl) ?_
    refine wl_nil (x_then (hK2 _ _ ?_))
    clear hK2 K2
    refine c_ret ?_
    refine bp_ret Tryz.results152 rfl ?_
    exact ⟨by rw [wy_iff.2 (by omega)]; rfl, rfl⟩
  · skip
    refine c_reg ?_ -- region 1 scan.go:29
    refine wl (ro_move rfl) ?_
    refine wl (ro_cmp (r := false) rfl rfl (congrArg some (decide_eq_false (by omega)))) ?_
    refine wl (ro_move rfl) ?_
    refine wlg_no rfl ?_
    refine wlg_no rfl ?_
    refine wl (ro_pick rfl rfl rfl) ?_
    refine wl (ro_move rfl) ?_
    refine wlg_yes rfl (ro_move rfl) ?_
    refine wlg_yes rfl (ro_cmp (r := false) rfl rfl (congrArg some (decide_eq_false (by omega)))) ?_
    refine wlg_yes rfl (ro_move rfl) ?_
    refine wlg_no rfl ?_
    refine wlg_no rfl ?_
    refine wlg_yes rfl (ro_pick rfl rfl rfl) ?_
    refine wl (ro_pick rfl rfl rfl) ?_
    refine wl (ro_move rfl) ?_
    refine wlg_yes rfl (ro_move rfl) ?_
    refine wlg_yes rfl (ro_cmp (r := false) rfl rfl (congrArg some ((beqc c.toNat 36).trans (decide_eq_false (by omega))))) ?_
    refine wl (ro_pick rfl rfl rfl) ?_
    refine wl (ro_assign rfl) ?_
    refine wl_nil (x_then (hK2 _ _ ?_))
    clear hK2 K2
    refine c_ret ?_
    refine bp_ret Tryz.results152 rfl ?_
    exact ⟨by rw [wy_not.2 (by omega)]; rfl, rfl⟩
  · skip
    refine c_reg ?_ -- region 1 scan.go:29
    refine wl (ro_move rfl) ?_
    refine wl (ro_cmp (r := false) rfl rfl (congrArg some (decide_eq_false (by omega)))) ?_
    refine wl (ro_move rfl) ?_
    refine wlg_no rfl ?_
    refine wlg_no rfl ?_
    refine wl (ro_pick rfl rfl rfl) ?_
    refine wl (ro_move rfl) ?_
    refine wlg_yes rfl (ro_move rfl) ?_
    refine wlg_yes rfl (ro_cmp (r := true) rfl rfl (congrArg some (decide_eq_true (by omega)))) ?_
    refine wlg_yes rfl (ro_move rfl) ?_
    refine wlg_yes rfl (ro_move rfl) ?_
    refine wlg_yes rfl (ro_cmp (r := true) rfl rfl (congrArg some (decide_eq_true (by omega)))) ?_
    refine wlg_yes rfl (ro_pick rfl rfl rfl) ?_
    refine wl (ro_pick rfl rfl rfl) ?_
    refine wl (ro_move rfl) ?_
    refine wlg_no rfl ?_
    refine wlg_no rfl ?_
    refine wl (ro_pick rfl rfl rfl) ?_
    refine wl (ro_assign rfl) ?_
    refine wl_nil (x_then (hK2 _ _ ?_))
    clear hK2 K2
    refine c_ret ?_
    refine bp_ret Tryz.results152 rfl ?_
    exact ⟨by rw [wy_iff.2 (by omega)]; rfl, rfl⟩
  · skip
    refine c_reg ?_ -- region 1 scan.go:29
    refine wl (ro_move rfl) ?_
    refine wl (ro_cmp (r := false) rfl rfl (congrArg some (decide_eq_false (by omega)))) ?_
    refine wl (ro_move rfl) ?_
    refine wlg_no rfl ?_
    refine wlg_no rfl ?_
    refine wl (ro_pick rfl rfl rfl) ?_
    refine wl (ro_move rfl) ?_
    refine wlg_yes rfl (ro_move rfl) ?_
    refine wlg_yes rfl (ro_cmp (r := true) rfl rfl (congrArg some (decide_eq_true (by omega)))) ?_
    refine wlg_yes rfl (ro_move rfl) ?_
    refine wlg_yes rfl (ro_move rfl) ?_
    refine wlg_yes rfl (ro_cmp (r := false) rfl rfl (congrArg some (decide_eq_false (by omega)))) ?_
    refine wlg_yes rfl (ro_pick rfl rfl rfl) ?_
    refine wl (ro_pick rfl rfl rfl) ?_
    refine wl (ro_move rfl) ?_
    refine wlg_yes rfl (ro_move rfl) ?_
    refine wlg_yes rfl (ro_cmp (r := false) rfl rfl (congrArg some ((beqc c.toNat 36).trans (decide_eq_false (by omega))))) ?_
    refine wl (ro_pick rfl rfl rfl) ?_
    refine wl (ro_assign rfl) ?_
    refine wl_nil (x_then (hK2 _ _ ?_))
    clear hK2 K2
    refine c_ret ?_
    refine bp_ret Tryz.results152 rfl ?_
    exact ⟨by rw [wy_not.2 (by omega)]; rfl, rfl⟩
  · skip
    refine c_reg ?_ -- region 1 scan.go:29
    refine wl (ro_move rfl) ?_
    refine wl (ro_cmp (r := true) rfl rfl (congrArg some (decide_eq_true (by omega)))) ?_
    refine wl (ro_move rfl) ?_
    refine wlg_yes rfl (ro_move rfl) ?_
    refine wlg_yes rfl (ro_cmp (r := true) rfl rfl (congrArg some (decide_eq_true (by omega)))) ?_
    refine wl (ro_pick rfl rfl rfl) ?_
    refine wl (ro_move rfl) ?_
    refine wlg_no rfl ?_
    refine wlg_no rfl ?_
    refine wlg_no rfl ?_
    refine wlg_no rfl ?_
    refine wlg_no rfl ?_
    refine wlg_no rfl ?_
    refine wl (ro_pick rfl rfl rfl) ?_
    refine wl (ro_move rfl) ?_
    refine wlg_no rfl ?_
    refine wlg_no rfl ?_
    refine wl (ro_pick rfl rfl rfl) ?_
    refine wl (ro_assign rfl) ?_
    refine wl_nil (x_then (hK2 _ _ ?_))
    clear hK2 K2
    refine c_ret ?_
    refine bp_ret Tryz.results152 rfl ?_
    exact ⟨by rw [wy_iff.2 (by omega)]; rfl, rfl⟩
  · skip
    refine c_reg ?_ -- region 1 scan.go:29
    refine wl (ro_move rfl) ?_
    refine wl (ro_cmp (r := true) rfl rfl (congrArg some (decide_eq_true (by omega)))) ?_
    refine wl (ro_move rfl) ?_
    refine wlg_yes rfl (ro_move rfl) ?_
    refine wlg_yes rfl (ro_cmp (r := false) rfl rfl (congrArg some (decide_eq_false (by omega)))) ?_
    refine wl (ro_pick rfl rfl rfl) ?_
    refine wl (ro_move rfl) ?_
    refine wlg_yes rfl (ro_move rfl) ?_
    refine wlg_yes rfl (ro_cmp (r := true) rfl rfl (congrArg some (decide_eq_true (by omega)))) ?_
    refine wlg_yes rfl (ro_move rfl) ?_
    refine wlg_yes rfl (ro_move rfl) ?_
    refine wlg_yes rfl (ro_cmp (r := false) rfl rfl (congrArg some (decide_eq_false (by omega)))) ?_
    refine wlg_yes rfl (ro_pick rfl rfl rfl) ?_
    refine wl (ro_pick rfl rfl rfl) ?_
    refine wl (ro_move rfl) ?_
    refine wlg_yes rfl (ro_move rfl) ?_
    refine wlg_yes rfl (ro_cmp (r := false) rfl rfl (congrArg some ((beqc c.toNat 36).trans (decide_eq_false (by omega))))) ?_
    refine wl (ro_pick rfl rfl rfl) ?_
    refine wl (ro_assign rfl) ?_
    refine wl_nil (x_then (hK2 _ _ ?_))
    clear hK2 K2
    refine c_ret ?_
    refine bp_ret Tryz.results152 rfl ?_
    exact ⟨by rw [wy_not.2 (by omega)]; rfl, rfl⟩

end Go.Proofs.Qxb6500570aGreat
