import Derived.Test.Qxb6500567aGreatBh
/- The real parser: one step. -/
namespace Go.Proofs.Qxb6500567aGreat
set_option linter.unusedVariables false
set_option linter.unusedSimpArgs false

theorem joinR_ok {σ σ' : RS} (h : joinR σ = .ok σ') : σ'.i = σ.i := by
  unfold joinR at h
  split at h
  · cases h; rfl
  · split at h
    · cases h; rfl
    · split at h
      · cases h
      · cases h; rfl
theorem joinR_er {σ : RS} {e : Er} (h : joinR σ = .error e) : e = (8, σ.i) := by
  unfold joinR at h
  split at h
  · cases h
  · split at h
    · cases h
    · split at h <;> cases h; rfl

theorem leafR_set {p : List UInt8} {σ : RS} {b : UInt8} {r : RE} {j : Nat} (h : leafA p σ.i b = .ok (r, j)) : leafR p σ b = leafX { σ with i := j } r := by
  unfold leafR leafX
  rw [h]
theorem leafR_cls {p : List UInt8} {σ : RS} : leafR p σ 91 = classX p σ := by
  unfold leafR classX leafX
  rw [show leafA p σ.i 91 = (match cls p σ.i with | .error e => Except.error e | .ok (S, j) => Except.ok (RE.set S, j)) from rfl]
  cases cls p σ.i with
  | error e => rfl
  | ok r => rfl
theorem leafR_esc {p : List UInt8} {σ : RS} {e : Er} (h : esc p σ.i = .error e) : leafR p σ 92 = .error e := by
  unfold leafR
  rw [show leafA p σ.i 92 = (match esc p σ.i with | .error e => Except.error e | .ok (S, _, _, j) => Except.ok (RE.set S, j)) from rfl, h]

/-- What step leaves. -/
def RPw (xb : Nat) (p : List UInt8) (X : RRes) (w' : World) : Prop :=
  (∀ σ', X = .ok σ' → ∃ f' T', FB w'.heap xb 325 f' 96 ∧ PV f' p σ' T') ∧ (∀ e, X = .error e → ∃ f', FB w'.heap xb 325 f' 96 ∧ f' 323 = i64c e.1 ∧ f' 324 = i64c e.2)
theorem RP.weak {xb : Nat} {p : List UInt8} {X : RRes} {w' : World} (h : RP xb p X w') : RPw xb p X w' :=
  ⟨h.1, fun e he => by obtain ⟨f', h1, h2⟩ := h.2 e he; exact ⟨f', h1, h2.1, h2.2.1⟩⟩
theorem RPw.er {xb : Nat} {p : List UInt8} {e : Er} {w' : World} {f' : Nat → Value} (h1 : FB w'.heap xb 325 f' 96) (h2 : f' 323 = i64c e.1) (h3 : f' 324 = i64c e.2) {X : RRes} (hX : X = .error e) : RPw xb p X w' :=
  ⟨fun s hs => by (rw [hX] at hs; cases hs), fun e' he => by rw [hX] at he; cases he; exact ⟨_, h1, h2, h3⟩⟩

theorem isSign_f {b : UInt8} (h : isSign b = false) : b ≠ 42 ∧ b ≠ 43 ∧ b ≠ 63 ∧ b ≠ 123 := by
  simp [isSign] at h
  exact ⟨h.1.1.1, h.1.1.2, h.1.2, h.2⟩
theorem isSign_t {b : UInt8} (h : isSign b = true) : b = 42 ∨ b = 43 ∨ b = 63 ∨ b = 123 := by
  simp [isSign] at h
  rcases h with ((h | h) | h) | h
  · exact .inl h
  · exact .inr (.inl h)
  · exact .inr (.inr (.inl h))
  · exact .inr (.inr (.inr h))

set_option maxHeartbeats 4000000 in
theorem step94 {w : World} {xb : Nat} {f : Nat → Value} {p : List UInt8} {σ : RS} {T : List RE} {b : UInt8} (hB : FB w.heap xb 325 f 96) (V : PV f p σ T) (hb : p[σ.i]? = some b) :
    Ret Tryz.prog 94 [ptr xb] w (fun v w' => v = .tuple #[] ∧ RPw xb p (stepR p σ b) w' ∧ Fram (one xb) w w') := by
  have hF : Fram (one xb) w w := Fram.refl _ _
  have hpl := V.pl
  have hi := get_lt hb
  unfold stepR
  cases hsg : isSign b with
  | true =>
    simp only [if_true]
    rcases isSign_t hsg with rfl | rfl | rfl | rfl
    · skip
      refine ret_of Tryz.func94 rfl Tryz.ntmps94 rfl ?_
      refine c_seq (fun K1 hK1 => ?_)
      refine c_pi [(0, false), (1, false), (2, false), (3, false), (4, false), (5, false), (6, false), (7, false), (8, false), (9, false)] (SameH _) mixed (by kernel_rfl) rfl (by kernel_rfl) (po_then (po_bp)) (sameH_now _ _) ?_ -- region 0 syn.go:156
      refine pi_ro rfl (fun w hS => ro_move rfl) ?_
      refine pi_ro rfl (fun w hS => ro_nilCheck rfl) ?_
      refine pi_ro rfl (fun w hS => ro_fieldAddr (k := 0) rfl fo_96_0) ?_
      refine pi_ro rfl (fun w hS => ro_loadB rfl sc_9 (Blk.of_heap hB hS) (cel_get' (by omega) V.p0)) ?_
      refine pi_ro rfl (fun w hS => ro_move rfl) ?_
      refine pi_ro rfl (fun w hS => ro_nilCheck rfl) ?_
      refine pi_ro rfl (fun w hS => ro_fieldAddr (k := 1) rfl fo_96_1) ?_
      refine pi_ro rfl (fun w hS => ro_loadB rfl sc_3 (Blk.of_heap hB hS) (cel_get' (by omega) V.i1)) ?_
      refine pi_ro rfl (fun w hS => ro_indexS rfl rfl st_9 (rfl) (hb)) ?_
      refine pi_ro rfl (fun w hS => ro_assign rfl) ?_
      refine pi_nil (x_then (hK1 _ _ ?_))
      clear hK1 K1
      refine c_seq (fun K2 hK2 => ?_)
      refine c_seq (fun K3 hK3 => ?_)
      refine c_reg ?_ -- region 1 syn.go:157
      refine wl (ro_move rfl) ?_
      refine wl (ro_cmp rfl rfl rfl) ?_
      refine wl (ro_move rfl) ?_
      refine wlg_no rfl ?_
      refine wlg_no rfl ?_
      refine wl (ro_pick rfl rfl rfl) ?_
      refine wl (ro_move rfl) ?_
      refine wlg_no rfl ?_
      refine wlg_no rfl ?_
      refine wl (ro_pick rfl rfl rfl) ?_
      refine wl (ro_move rfl) ?_
      refine wlg_no rfl ?_
      refine wlg_no rfl ?_
      refine wl (ro_pick rfl rfl rfl) ?_
      refine wl_nil (x_then (hK3 _ _ ?_))
      clear hK3 K3
      refine wc_condT rfl ?_
      refine c_seq (fun K4 hK4 => ?_)
      refine c_reg ?_ -- region 2 syn.go:158
      refine wl (ro_move rfl) ?_
      refine wl_call rfl en_122 (sign122 hB V hb hsg) ?_
      rintro _ w2 ⟨rfl, hP, F2⟩
      refine wl_nil (x_then (hK4 _ _ ?_))
      clear hK4 K4
      refine c_ret (x_thenR ?_)
      refine bp_ret Tryz.results94 rfl ?_
      exact ⟨rfl, hP.weak, hF.thenDrew.trans F2⟩
    · skip
      refine ret_of Tryz.func94 rfl Tryz.ntmps94 rfl ?_
      refine c_seq (fun K1 hK1 => ?_)
      refine c_pi [(0, false), (1, false), (2, false), (3, false), (4, false), (5, false), (6, false), (7, false), (8, false), (9, false)] (SameH _) mixed (by kernel_rfl) rfl (by kernel_rfl) (po_then (po_bp)) (sameH_now _ _) ?_ -- region 0 syn.go:156
      refine pi_ro rfl (fun w hS => ro_move rfl) ?_
      refine pi_ro rfl (fun w hS => ro_nilCheck rfl) ?_
      refine pi_ro rfl (fun w hS => ro_fieldAddr (k := 0) rfl fo_96_0) ?_
      refine pi_ro rfl (fun w hS => ro_loadB rfl sc_9 (Blk.of_heap hB hS) (cel_get' (by omega) V.p0)) ?_
      refine pi_ro rfl (fun w hS => ro_move rfl) ?_
      refine pi_ro rfl (fun w hS => ro_nilCheck rfl) ?_
      refine pi_ro rfl (fun w hS => ro_fieldAddr (k := 1) rfl fo_96_1) ?_
      refine pi_ro rfl (fun w hS => ro_loadB rfl sc_3 (Blk.of_heap hB hS) (cel_get' (by omega) V.i1)) ?_
      refine pi_ro rfl (fun w hS => ro_indexS rfl rfl st_9 (rfl) (hb)) ?_
      refine pi_ro rfl (fun w hS => ro_assign rfl) ?_
      refine pi_nil (x_then (hK1 _ _ ?_))
      clear hK1 K1
      refine c_seq (fun K2 hK2 => ?_)
      refine c_seq (fun K3 hK3 => ?_)
      refine c_reg ?_ -- region 1 syn.go:157
      refine wl (ro_move rfl) ?_
      refine wl (ro_cmp rfl rfl rfl) ?_
      refine wl (ro_move rfl) ?_
      refine wlg_yes rfl (ro_move rfl) ?_
      refine wlg_yes rfl (ro_cmp rfl rfl rfl) ?_
      refine wl (ro_pick rfl rfl rfl) ?_
      refine wl (ro_move rfl) ?_
      refine wlg_no rfl ?_
      refine wlg_no rfl ?_
      refine wl (ro_pick rfl rfl rfl) ?_
      refine wl (ro_move rfl) ?_
      refine wlg_no rfl ?_
      refine wlg_no rfl ?_
      refine wl (ro_pick rfl rfl rfl) ?_
      refine wl_nil (x_then (hK3 _ _ ?_))
      clear hK3 K3
      refine wc_condT rfl ?_
      refine c_seq (fun K4 hK4 => ?_)
      refine c_reg ?_ -- region 2 syn.go:158
      refine wl (ro_move rfl) ?_
      refine wl_call rfl en_122 (sign122 hB V hb hsg) ?_
      rintro _ w2 ⟨rfl, hP, F2⟩
      refine wl_nil (x_then (hK4 _ _ ?_))
      clear hK4 K4
      refine c_ret (x_thenR ?_)
      refine bp_ret Tryz.results94 rfl ?_
      exact ⟨rfl, hP.weak, hF.thenDrew.trans F2⟩
    · skip
      refine ret_of Tryz.func94 rfl Tryz.ntmps94 rfl ?_
      refine c_seq (fun K1 hK1 => ?_)
      refine c_pi [(0, false), (1, false), (2, false), (3, false), (4, false), (5, false), (6, false), (7, false), (8, false), (9, false)] (SameH _) mixed (by kernel_rfl) rfl (by kernel_rfl) (po_then (po_bp)) (sameH_now _ _) ?_ -- region 0 syn.go:156
      refine pi_ro rfl (fun w hS => ro_move rfl) ?_
      refine pi_ro rfl (fun w hS => ro_nilCheck rfl) ?_
      refine pi_ro rfl (fun w hS => ro_fieldAddr (k := 0) rfl fo_96_0) ?_
      refine pi_ro rfl (fun w hS => ro_loadB rfl sc_9 (Blk.of_heap hB hS) (cel_get' (by omega) V.p0)) ?_
      refine pi_ro rfl (fun w hS => ro_move rfl) ?_
      refine pi_ro rfl (fun w hS => ro_nilCheck rfl) ?_
      refine pi_ro rfl (fun w hS => ro_fieldAddr (k := 1) rfl fo_96_1) ?_
      refine pi_ro rfl (fun w hS => ro_loadB rfl sc_3 (Blk.of_heap hB hS) (cel_get' (by omega) V.i1)) ?_
      refine pi_ro rfl (fun w hS => ro_indexS rfl rfl st_9 (rfl) (hb)) ?_
      refine pi_ro rfl (fun w hS => ro_assign rfl) ?_
      refine pi_nil (x_then (hK1 _ _ ?_))
      clear hK1 K1
      refine c_seq (fun K2 hK2 => ?_)
      refine c_seq (fun K3 hK3 => ?_)
      refine c_reg ?_ -- region 1 syn.go:157
      refine wl (ro_move rfl) ?_
      refine wl (ro_cmp rfl rfl rfl) ?_
      refine wl (ro_move rfl) ?_
      refine wlg_yes rfl (ro_move rfl) ?_
      refine wlg_yes rfl (ro_cmp rfl rfl rfl) ?_
      refine wl (ro_pick rfl rfl rfl) ?_
      refine wl (ro_move rfl) ?_
      refine wlg_yes rfl (ro_move rfl) ?_
      refine wlg_yes rfl (ro_cmp rfl rfl rfl) ?_
      refine wl (ro_pick rfl rfl rfl) ?_
      refine wl (ro_move rfl) ?_
      refine wlg_no rfl ?_
      refine wlg_no rfl ?_
      refine wl (ro_pick rfl rfl rfl) ?_
      refine wl_nil (x_then (hK3 _ _ ?_))
      clear hK3 K3
      refine wc_condT rfl ?_
      refine c_seq (fun K4 hK4 => ?_)
      refine c_reg ?_ -- region 2 syn.go:158
      refine wl (ro_move rfl) ?_
      refine wl_call rfl en_122 (sign122 hB V hb hsg) ?_
      rintro _ w2 ⟨rfl, hP, F2⟩
      refine wl_nil (x_then (hK4 _ _ ?_))
      clear hK4 K4
      refine c_ret (x_thenR ?_)
      refine bp_ret Tryz.results94 rfl ?_
      exact ⟨rfl, hP.weak, hF.thenDrew.trans F2⟩
    · skip
      refine ret_of Tryz.func94 rfl Tryz.ntmps94 rfl ?_
      refine c_seq (fun K1 hK1 => ?_)
      refine c_pi [(0, false), (1, false), (2, false), (3, false), (4, false), (5, false), (6, false), (7, false), (8, false), (9, false)] (SameH _) mixed (by kernel_rfl) rfl (by kernel_rfl) (po_then (po_bp)) (sameH_now _ _) ?_ -- region 0 syn.go:156
      refine pi_ro rfl (fun w hS => ro_move rfl) ?_
      refine pi_ro rfl (fun w hS => ro_nilCheck rfl) ?_
      refine pi_ro rfl (fun w hS => ro_fieldAddr (k := 0) rfl fo_96_0) ?_
      refine pi_ro rfl (fun w hS => ro_loadB rfl sc_9 (Blk.of_heap hB hS) (cel_get' (by omega) V.p0)) ?_
      refine pi_ro rfl (fun w hS => ro_move rfl) ?_
      refine pi_ro rfl (fun w hS => ro_nilCheck rfl) ?_
      refine pi_ro rfl (fun w hS => ro_fieldAddr (k := 1) rfl fo_96_1) ?_
      refine pi_ro rfl (fun w hS => ro_loadB rfl sc_3 (Blk.of_heap hB hS) (cel_get' (by omega) V.i1)) ?_
      refine pi_ro rfl (fun w hS => ro_indexS rfl rfl st_9 (rfl) (hb)) ?_
      refine pi_ro rfl (fun w hS => ro_assign rfl) ?_
      refine pi_nil (x_then (hK1 _ _ ?_))
      clear hK1 K1
      refine c_seq (fun K2 hK2 => ?_)
      refine c_seq (fun K3 hK3 => ?_)
      refine c_reg ?_ -- region 1 syn.go:157
      refine wl (ro_move rfl) ?_
      refine wl (ro_cmp rfl rfl rfl) ?_
      refine wl (ro_move rfl) ?_
      refine wlg_yes rfl (ro_move rfl) ?_
      refine wlg_yes rfl (ro_cmp rfl rfl rfl) ?_
      refine wl (ro_pick rfl rfl rfl) ?_
      refine wl (ro_move rfl) ?_
      refine wlg_yes rfl (ro_move rfl) ?_
      refine wlg_yes rfl (ro_cmp rfl rfl rfl) ?_
      refine wl (ro_pick rfl rfl rfl) ?_
      refine wl (ro_move rfl) ?_
      refine wlg_yes rfl (ro_move rfl) ?_
      refine wlg_yes rfl (ro_cmp rfl rfl rfl) ?_
      refine wl (ro_pick rfl rfl rfl) ?_
      refine wl_nil (x_then (hK3 _ _ ?_))
      clear hK3 K3
      refine wc_condT rfl ?_
      refine c_seq (fun K4 hK4 => ?_)
      refine c_reg ?_ -- region 2 syn.go:158
      refine wl (ro_move rfl) ?_
      refine wl_call rfl en_122 (sign122 hB V hb hsg) ?_
      rintro _ w2 ⟨rfl, hP, F2⟩
      refine wl_nil (x_then (hK4 _ _ ?_))
      clear hK4 K4
      refine c_ret (x_thenR ?_)
      refine bp_ret Tryz.results94 rfl ?_
      exact ⟨rfl, hP.weak, hF.thenDrew.trans F2⟩
  | false =>
    obtain ⟨n42, n43, n63, n123⟩ := isSign_f hsg
    simp only [Bool.false_eq_true, if_false]
    cases hj : joinR σ with
    | error e =>
      have he := joinR_er hj
      subst he
      refine ret_of Tryz.func94 rfl Tryz.ntmps94 rfl ?_
      refine c_seq (fun K1 hK1 => ?_)
      refine c_pi [(0, false), (1, false), (2, false), (3, false), (4, false), (5, false), (6, false), (7, false), (8, false), (9, false)] (SameH _) mixed (by kernel_rfl) rfl (by kernel_rfl) (po_then (po_bp)) (sameH_now _ _) ?_ -- region 0 syn.go:156
      refine pi_ro rfl (fun w hS => ro_move rfl) ?_
      refine pi_ro rfl (fun w hS => ro_nilCheck rfl) ?_
      refine pi_ro rfl (fun w hS => ro_fieldAddr (k := 0) rfl fo_96_0) ?_
      refine pi_ro rfl (fun w hS => ro_loadB rfl sc_9 (Blk.of_heap hB hS) (cel_get' (by omega) V.p0)) ?_
      refine pi_ro rfl (fun w hS => ro_move rfl) ?_
      refine pi_ro rfl (fun w hS => ro_nilCheck rfl) ?_
      refine pi_ro rfl (fun w hS => ro_fieldAddr (k := 1) rfl fo_96_1) ?_
      refine pi_ro rfl (fun w hS => ro_loadB rfl sc_3 (Blk.of_heap hB hS) (cel_get' (by omega) V.i1)) ?_
      refine pi_ro rfl (fun w hS => ro_indexS rfl rfl st_9 (rfl) (hb)) ?_
      refine pi_ro rfl (fun w hS => ro_assign rfl) ?_
      refine pi_nil (x_then (hK1 _ _ ?_))
      clear hK1 K1
      refine c_seq (fun K2 hK2 => ?_)
      refine c_seq (fun K3 hK3 => ?_)
      refine c_reg ?_ -- region 1 syn.go:157
      refine wl (ro_move rfl) ?_
      refine wl (ro_cmp (r := false) rfl rfl (congrArg some ((u8eq b 42).trans (decide_eq_false n42)))) ?_
      refine wl (ro_move rfl) ?_
      refine wlg_yes rfl (ro_move rfl) ?_
      refine wlg_yes rfl (ro_cmp (r := false) rfl rfl (congrArg some ((u8eq b 43).trans (decide_eq_false n43)))) ?_
      refine wl (ro_pick rfl rfl rfl) ?_
      refine wl (ro_move rfl) ?_
      refine wlg_yes rfl (ro_move rfl) ?_
      refine wlg_yes rfl (ro_cmp (r := false) rfl rfl (congrArg some ((u8eq b 63).trans (decide_eq_false n63)))) ?_
      refine wl (ro_pick rfl rfl rfl) ?_
      refine wl (ro_move rfl) ?_
      refine wlg_yes rfl (ro_move rfl) ?_
      refine wlg_yes rfl (ro_cmp (r := false) rfl rfl (congrArg some ((u8eq b 123).trans (decide_eq_false n123)))) ?_
      refine wl (ro_pick rfl rfl rfl) ?_
      refine wl_nil (x_then (hK3 _ _ ?_))
      clear hK3 K3
      refine wc_condF rfl ?_
      refine c_skip (x_then (hK2 _ _ ?_))
      clear hK2 K2
      refine forget [(0, _), (2, _)] ⟨rfl, rfl, trivial⟩ (fun e => ?_)
      refine c_seq (fun K4 hK4 => ?_)
      refine c_reg ?_ -- region 3 syn.go:161
      refine wl (ro_move rfl) ?_
      refine wl_call rfl en_95 (join95 hB V) ?_
      rintro _ w2 ⟨rfl, hP, F2⟩
      replace hF := hF.thenDrew.trans F2
      obtain ⟨f2, hB, E⟩ := hP.2 _ hj
      refine wl_nil (x_then (hK4 _ _ ?_))
      clear hK4 K4
      refine c_seq (fun K5 hK5 => ?_)
      refine c_seq (fun K6 hK6 => ?_)
      refine c_reg ?_ -- region 4 syn.go:162
      refine wl (ro_move rfl) ?_
      refine wl (ro_nilCheck rfl) ?_
      refine wl (ro_fieldAddr (k := 323) rfl fo_96_8) ?_
      refine wl (ro_loadB rfl sc_53 (hB) (cel_get' (by omega) E.1)) ?_
      refine wl (ro_cmp rfl rfl rfl) ?_
      refine wl_nil (x_then (hK6 _ _ ?_))
      clear hK6 K6
      refine wc_condT rfl ?_
      refine c_ret (x_thenR ?_)
      refine bp_ret Tryz.results94 rfl ?_
      exact ⟨rfl, (RP.er hB E rfl).weak, hF⟩
    | ok σ1 =>
      have h1i := joinR_ok hj
      have hb1 : p[σ1.i]? = some b := by rw [h1i]; exact hb
      have hi1 := get_lt hb1
      simp only
      by_cases h124 : b = 124
      · subst h124
        have hX : actR p σ1 124 = match foldR σ1 with | .error e => .error e | .ok σ => .ok { σ with i := σ.i + 1 } := rfl
        rw [hX]
        cases hf : foldR σ1 with
        | error e =>
          refine ret_of Tryz.func94 rfl Tryz.ntmps94 rfl ?_
          refine c_seq (fun K1 hK1 => ?_)
          refine c_pi [(0, false), (1, false), (2, false), (3, false), (4, false), (5, false), (6, false), (7, false), (8, false), (9, false)] (SameH _) mixed (by kernel_rfl) rfl (by kernel_rfl) (po_then (po_bp)) (sameH_now _ _) ?_ -- region 0 syn.go:156
          refine pi_ro rfl (fun w hS => ro_move rfl) ?_
          refine pi_ro rfl (fun w hS => ro_nilCheck rfl) ?_
          refine pi_ro rfl (fun w hS => ro_fieldAddr (k := 0) rfl fo_96_0) ?_
          refine pi_ro rfl (fun w hS => ro_loadB rfl sc_9 (Blk.of_heap hB hS) (cel_get' (by omega) V.p0)) ?_
          refine pi_ro rfl (fun w hS => ro_move rfl) ?_
          refine pi_ro rfl (fun w hS => ro_nilCheck rfl) ?_
          refine pi_ro rfl (fun w hS => ro_fieldAddr (k := 1) rfl fo_96_1) ?_
          refine pi_ro rfl (fun w hS => ro_loadB rfl sc_3 (Blk.of_heap hB hS) (cel_get' (by omega) V.i1)) ?_
          refine pi_ro rfl (fun w hS => ro_indexS rfl rfl st_9 (rfl) (hb)) ?_
          refine pi_ro rfl (fun w hS => ro_assign rfl) ?_
          refine pi_nil (x_then (hK1 _ _ ?_))
          clear hK1 K1
          refine c_seq (fun K2 hK2 => ?_)
          refine c_seq (fun K3 hK3 => ?_)
          refine c_reg ?_ -- region 1 syn.go:157
          refine wl (ro_move rfl) ?_
          refine wl (ro_cmp rfl rfl rfl) ?_
          refine wl (ro_move rfl) ?_
          refine wlg_yes rfl (ro_move rfl) ?_
          refine wlg_yes rfl (ro_cmp rfl rfl rfl) ?_
          refine wl (ro_pick rfl rfl rfl) ?_
          refine wl (ro_move rfl) ?_
          refine wlg_yes rfl (ro_move rfl) ?_
          refine wlg_yes rfl (ro_cmp rfl rfl rfl) ?_
          refine wl (ro_pick rfl rfl rfl) ?_
          refine wl (ro_move rfl) ?_
          refine wlg_yes rfl (ro_move rfl) ?_
          refine wlg_yes rfl (ro_cmp rfl rfl rfl) ?_
          refine wl (ro_pick rfl rfl rfl) ?_
          refine wl_nil (x_then (hK3 _ _ ?_))
          clear hK3 K3
          refine wc_condF rfl ?_
          refine c_skip (x_then (hK2 _ _ ?_))
          clear hK2 K2
          refine forget [(0, _), (2, _)] ⟨rfl, rfl, trivial⟩ (fun e => ?_)
          refine c_seq (fun K4 hK4 => ?_)
          refine c_reg ?_ -- region 3 syn.go:161
          refine wl (ro_move rfl) ?_
          refine wl_call rfl en_95 (join95 hB V) ?_
          rintro _ w2 ⟨rfl, hP, F2⟩
          replace hF := hF.thenDrew.trans F2
          obtain ⟨f1, T1, hB, V1⟩ := hP.1 _ hj
          refine wl_nil (x_then (hK4 _ _ ?_))
          clear hK4 K4
          refine c_seq (fun K5 hK5 => ?_)
          refine c_seq (fun K6 hK6 => ?_)
          refine c_reg ?_ -- region 4 syn.go:162
          refine wl (ro_move rfl) ?_
          refine wl (ro_nilCheck rfl) ?_
          refine wl (ro_fieldAddr (k := 323) rfl fo_96_8) ?_
          refine wl (ro_loadB rfl sc_53 (hB) (cel_get' (by omega) V1.er)) ?_
          refine wl (ro_cmp rfl rfl rfl) ?_
          refine wl_nil (x_then (hK6 _ _ ?_))
          clear hK6 K6
          refine wc_condF rfl ?_
          refine c_skip (x_then (hK5 _ _ ?_))
          clear hK5 K5
          refine forget [(0, _), (2, _)] ⟨rfl, rfl, trivial⟩ (fun e => ?_)
          refine c_seq (fun K7 hK7 => ?_)
          refine c_reg ?_ -- region 5 syn.go:165
          refine wl (ro_move rfl) ?_
          refine wl_nil (x_then (hK7 _ _ ?_))
          clear hK7 K7
          refine c_block ?_
          refine forget [(0, _), (2, _), (41, _)] ⟨rfl, rfl, rfl, trivial⟩ (fun e => ?_)
          refine c_seq (fun K8 hK8 => ?_)
          refine c_reg ?_ -- region 9 syn.go:166
          refine wl (ro_cmp rfl rfl rfl) ?_
          refine wl (ro_assign rfl) ?_
          refine wl_nil (x_then (hK8 _ _ ?_))
          clear hK8 K8
          refine wc_condT rfl ?_
          refine c_seq (fun K9 hK9 => ?_)
          refine c_reg ?_ -- region 10 syn.go:167
          refine wl (ro_move rfl) ?_
          refine wl_call rfl en_96 (fold96 hB V1) ?_
          rintro _ w3 ⟨rfl, hP3, F3⟩
          replace hF := hF.thenDrew.trans F3
          obtain ⟨f3, hB, E3⟩ := hP3.2 _ hf
          obtain ⟨k3, hk3, hf31⟩ := E3.2.2
          refine wl_nil (x_then (hK9 _ _ ?_))
          clear hK9 K9
          refine c_reg ?_ -- region 11 syn.go:168
          refine wl (ro_move rfl) ?_
          refine wl (ro_nilCheck rfl) ?_
          refine wl (ro_fieldAddr (k := 1) rfl fo_96_1) ?_
          refine wl (ro_loadB rfl sc_3 (hB) (cel_get' (by omega) hf31)) ?_
          refine wl (ro_arith rfl rfl rfl (Go.IntWalk.i64_in _ (by omega))) ?_
          refine wl (ro_nilCheck rfl) ?_
          refine wl (ro_fieldAddr (k := 1) rfl fo_96_1) ?_
          refine wl_put rfl rfl rfl sz_3 hB ((cel_lt (by omega))) ((cel_put 1 (by omega))) (fun w1 hB F1 => ?_)
          replace hF := hF.thenDrew.thenO F1 (by first | exact .inr (by omega) | exact .inl rfl | exact .inl (by assumption))
          refine wl_nil (x_blk ?_)
          refine bp_end Tryz.results94 rfl ?_
          exact ⟨rfl, RPw.er hB (by rw [pt_ne (by omega)]; exact E3.1) (by rw [pt_ne (by omega)]; exact E3.2.1) rfl, hF⟩
        | ok σ3 =>
          obtain ⟨_, h3i, _⟩ := foldR_ok hf
          refine ret_of Tryz.func94 rfl Tryz.ntmps94 rfl ?_
          refine c_seq (fun K1 hK1 => ?_)
          refine c_pi [(0, false), (1, false), (2, false), (3, false), (4, false), (5, false), (6, false), (7, false), (8, false), (9, false)] (SameH _) mixed (by kernel_rfl) rfl (by kernel_rfl) (po_then (po_bp)) (sameH_now _ _) ?_ -- region 0 syn.go:156
          refine pi_ro rfl (fun w hS => ro_move rfl) ?_
          refine pi_ro rfl (fun w hS => ro_nilCheck rfl) ?_
          refine pi_ro rfl (fun w hS => ro_fieldAddr (k := 0) rfl fo_96_0) ?_
          refine pi_ro rfl (fun w hS => ro_loadB rfl sc_9 (Blk.of_heap hB hS) (cel_get' (by omega) V.p0)) ?_
          refine pi_ro rfl (fun w hS => ro_move rfl) ?_
          refine pi_ro rfl (fun w hS => ro_nilCheck rfl) ?_
          refine pi_ro rfl (fun w hS => ro_fieldAddr (k := 1) rfl fo_96_1) ?_
          refine pi_ro rfl (fun w hS => ro_loadB rfl sc_3 (Blk.of_heap hB hS) (cel_get' (by omega) V.i1)) ?_
          refine pi_ro rfl (fun w hS => ro_indexS rfl rfl st_9 (rfl) (hb)) ?_
          refine pi_ro rfl (fun w hS => ro_assign rfl) ?_
          refine pi_nil (x_then (hK1 _ _ ?_))
          clear hK1 K1
          refine c_seq (fun K2 hK2 => ?_)
          refine c_seq (fun K3 hK3 => ?_)
          refine c_reg ?_ -- region 1 syn.go:157
          refine wl (ro_move rfl) ?_
          refine wl (ro_cmp rfl rfl rfl) ?_
          refine wl (ro_move rfl) ?_
          refine wlg_yes rfl (ro_move rfl) ?_
          refine wlg_yes rfl (ro_cmp rfl rfl rfl) ?_
          refine wl (ro_pick rfl rfl rfl) ?_
          refine wl (ro_move rfl) ?_
          refine wlg_yes rfl (ro_move rfl) ?_
          refine wlg_yes rfl (ro_cmp rfl rfl rfl) ?_
          refine wl (ro_pick rfl rfl rfl) ?_
          refine wl (ro_move rfl) ?_
          refine wlg_yes rfl (ro_move rfl) ?_
          refine wlg_yes rfl (ro_cmp rfl rfl rfl) ?_
          refine wl (ro_pick rfl rfl rfl) ?_
          refine wl_nil (x_then (hK3 _ _ ?_))
          clear hK3 K3
          refine wc_condF rfl ?_
          refine c_skip (x_then (hK2 _ _ ?_))
          clear hK2 K2
          refine forget [(0, _), (2, _)] ⟨rfl, rfl, trivial⟩ (fun e => ?_)
          refine c_seq (fun K4 hK4 => ?_)
          refine c_reg ?_ -- region 3 syn.go:161
          refine wl (ro_move rfl) ?_
          refine wl_call rfl en_95 (join95 hB V) ?_
          rintro _ w2 ⟨rfl, hP, F2⟩
          replace hF := hF.thenDrew.trans F2
          obtain ⟨f1, T1, hB, V1⟩ := hP.1 _ hj
          refine wl_nil (x_then (hK4 _ _ ?_))
          clear hK4 K4
          refine c_seq (fun K5 hK5 => ?_)
          refine c_seq (fun K6 hK6 => ?_)
          refine c_reg ?_ -- region 4 syn.go:162
          refine wl (ro_move rfl) ?_
          refine wl (ro_nilCheck rfl) ?_
          refine wl (ro_fieldAddr (k := 323) rfl fo_96_8) ?_
          refine wl (ro_loadB rfl sc_53 (hB) (cel_get' (by omega) V1.er)) ?_
          refine wl (ro_cmp rfl rfl rfl) ?_
          refine wl_nil (x_then (hK6 _ _ ?_))
          clear hK6 K6
          refine wc_condF rfl ?_
          refine c_skip (x_then (hK5 _ _ ?_))
          clear hK5 K5
          refine forget [(0, _), (2, _)] ⟨rfl, rfl, trivial⟩ (fun e => ?_)
          refine c_seq (fun K7 hK7 => ?_)
          refine c_reg ?_ -- region 5 syn.go:165
          refine wl (ro_move rfl) ?_
          refine wl_nil (x_then (hK7 _ _ ?_))
          clear hK7 K7
          refine c_block ?_
          refine forget [(0, _), (2, _), (41, _)] ⟨rfl, rfl, rfl, trivial⟩ (fun e => ?_)
          refine c_seq (fun K8 hK8 => ?_)
          refine c_reg ?_ -- region 9 syn.go:166
          refine wl (ro_cmp rfl rfl rfl) ?_
          refine wl (ro_assign rfl) ?_
          refine wl_nil (x_then (hK8 _ _ ?_))
          clear hK8 K8
          refine wc_condT rfl ?_
          refine c_seq (fun K9 hK9 => ?_)
          refine c_reg ?_ -- region 10 syn.go:167
          refine wl (ro_move rfl) ?_
          refine wl_call rfl en_96 (fold96 hB V1) ?_
          rintro _ w3 ⟨rfl, hP3, F3⟩
          replace hF := hF.thenDrew.trans F3
          obtain ⟨f3, T3, hB, V3⟩ := hP3.1 _ hf
          refine wl_nil (x_then (hK9 _ _ ?_))
          clear hK9 K9
          refine c_reg ?_ -- region 11 syn.go:168
          refine wl (ro_move rfl) ?_
          refine wl (ro_nilCheck rfl) ?_
          refine wl (ro_fieldAddr (k := 1) rfl fo_96_1) ?_
          refine wl (ro_loadB rfl sc_3 (hB) (cel_get' (by omega) V3.i1)) ?_
          refine wl (ro_arith rfl rfl rfl (Go.IntWalk.i64_in _ (by omega))) ?_
          refine wl (ro_nilCheck rfl) ?_
          refine wl (ro_fieldAddr (k := 1) rfl fo_96_1) ?_
          refine wl_put rfl rfl rfl sz_3 hB ((cel_lt (by omega))) ((cel_put 1 (by omega))) (fun w1 hB F1 => ?_)
          replace hF := hF.thenDrew.thenO F1 (by first | exact .inr (by omega) | exact .inl rfl | exact .inl (by assumption))
          refine wl_nil (x_blk ?_)
          refine bp_end Tryz.results94 rfl ?_
          exact ⟨rfl, (RP.ok hB (V3.setI (i := σ3.i + 1) (by omega)) rfl).weak, hF⟩
      by_cases h41 : b = 41
      · subst h41
        refine ret_of Tryz.func94 rfl Tryz.ntmps94 rfl ?_
        refine c_seq (fun K1 hK1 => ?_)
        refine c_pi [(0, false), (1, false), (2, false), (3, false), (4, false), (5, false), (6, false), (7, false), (8, false), (9, false)] (SameH _) mixed (by kernel_rfl) rfl (by kernel_rfl) (po_then (po_bp)) (sameH_now _ _) ?_ -- region 0 syn.go:156
        refine pi_ro rfl (fun w hS => ro_move rfl) ?_
        refine pi_ro rfl (fun w hS => ro_nilCheck rfl) ?_
        refine pi_ro rfl (fun w hS => ro_fieldAddr (k := 0) rfl fo_96_0) ?_
        refine pi_ro rfl (fun w hS => ro_loadB rfl sc_9 (Blk.of_heap hB hS) (cel_get' (by omega) V.p0)) ?_
        refine pi_ro rfl (fun w hS => ro_move rfl) ?_
        refine pi_ro rfl (fun w hS => ro_nilCheck rfl) ?_
        refine pi_ro rfl (fun w hS => ro_fieldAddr (k := 1) rfl fo_96_1) ?_
        refine pi_ro rfl (fun w hS => ro_loadB rfl sc_3 (Blk.of_heap hB hS) (cel_get' (by omega) V.i1)) ?_
        refine pi_ro rfl (fun w hS => ro_indexS rfl rfl st_9 (rfl) (hb)) ?_
        refine pi_ro rfl (fun w hS => ro_assign rfl) ?_
        refine pi_nil (x_then (hK1 _ _ ?_))
        clear hK1 K1
        refine c_seq (fun K2 hK2 => ?_)
        refine c_seq (fun K3 hK3 => ?_)
        refine c_reg ?_ -- region 1 syn.go:157
        refine wl (ro_move rfl) ?_
        refine wl (ro_cmp rfl rfl rfl) ?_
        refine wl (ro_move rfl) ?_
        refine wlg_yes rfl (ro_move rfl) ?_
        refine wlg_yes rfl (ro_cmp rfl rfl rfl) ?_
        refine wl (ro_pick rfl rfl rfl) ?_
        refine wl (ro_move rfl) ?_
        refine wlg_yes rfl (ro_move rfl) ?_
        refine wlg_yes rfl (ro_cmp rfl rfl rfl) ?_
        refine wl (ro_pick rfl rfl rfl) ?_
        refine wl (ro_move rfl) ?_
        refine wlg_yes rfl (ro_move rfl) ?_
        refine wlg_yes rfl (ro_cmp rfl rfl rfl) ?_
        refine wl (ro_pick rfl rfl rfl) ?_
        refine wl_nil (x_then (hK3 _ _ ?_))
        clear hK3 K3
        refine wc_condF rfl ?_
        refine c_skip (x_then (hK2 _ _ ?_))
        clear hK2 K2
        refine forget [(0, _), (2, _)] ⟨rfl, rfl, trivial⟩ (fun e => ?_)
        refine c_seq (fun K4 hK4 => ?_)
        refine c_reg ?_ -- region 3 syn.go:161
        refine wl (ro_move rfl) ?_
        refine wl_call rfl en_95 (join95 hB V) ?_
        rintro _ w2 ⟨rfl, hP, F2⟩
        replace hF := hF.thenDrew.trans F2
        obtain ⟨f1, T1, hB, V1⟩ := hP.1 _ hj
        refine wl_nil (x_then (hK4 _ _ ?_))
        clear hK4 K4
        refine c_seq (fun K5 hK5 => ?_)
        refine c_seq (fun K6 hK6 => ?_)
        refine c_reg ?_ -- region 4 syn.go:162
        refine wl (ro_move rfl) ?_
        refine wl (ro_nilCheck rfl) ?_
        refine wl (ro_fieldAddr (k := 323) rfl fo_96_8) ?_
        refine wl (ro_loadB rfl sc_53 (hB) (cel_get' (by omega) V1.er)) ?_
        refine wl (ro_cmp rfl rfl rfl) ?_
        refine wl_nil (x_then (hK6 _ _ ?_))
        clear hK6 K6
        refine wc_condF rfl ?_
        refine c_skip (x_then (hK5 _ _ ?_))
        clear hK5 K5
        refine forget [(0, _), (2, _)] ⟨rfl, rfl, trivial⟩ (fun e => ?_)
        refine c_seq (fun K7 hK7 => ?_)
        refine c_reg ?_ -- region 5 syn.go:165
        refine wl (ro_move rfl) ?_
        refine wl_nil (x_then (hK7 _ _ ?_))
        clear hK7 K7
        refine c_block ?_
        refine forget [(0, _), (2, _), (41, _)] ⟨rfl, rfl, rfl, trivial⟩ (fun e => ?_)
        refine c_seq (fun K8 hK8 => ?_)
        refine c_reg ?_ -- region 9 syn.go:166
        refine wl (ro_cmp rfl rfl rfl) ?_
        refine wl (ro_assign rfl) ?_
        refine wl_nil (x_then (hK8 _ _ ?_))
        clear hK8 K8
        refine wc_condF rfl ?_
        refine c_seq (fun K9 hK9 => ?_)
        refine c_reg ?_ -- region 12 syn.go:169
        refine wl (ro_cmp rfl rfl rfl) ?_
        refine wl (ro_assign rfl) ?_
        refine wl_nil (x_then (hK9 _ _ ?_))
        clear hK9 K9
        refine wc_condT rfl ?_
        refine c_reg ?_ -- region 13 syn.go:170
        refine wl (ro_move rfl) ?_
        refine wl_call rfl en_123 (shut123 hB V1 hi1) ?_
        rintro _ w3 ⟨rfl, hP3, F3⟩
        refine wl_nil (x_blk ?_)
        refine bp_end Tryz.results94 rfl ?_
        exact ⟨rfl, hP3.weak, hF.trans F3⟩
      by_cases h40 : b = 40
      · subst h40
        refine ret_of Tryz.func94 rfl Tryz.ntmps94 rfl ?_
        refine c_seq (fun K1 hK1 => ?_)
        refine c_pi [(0, false), (1, false), (2, false), (3, false), (4, false), (5, false), (6, false), (7, false), (8, false), (9, false)] (SameH _) mixed (by kernel_rfl) rfl (by kernel_rfl) (po_then (po_bp)) (sameH_now _ _) ?_ -- region 0 syn.go:156
        refine pi_ro rfl (fun w hS => ro_move rfl) ?_
        refine pi_ro rfl (fun w hS => ro_nilCheck rfl) ?_
        refine pi_ro rfl (fun w hS => ro_fieldAddr (k := 0) rfl fo_96_0) ?_
        refine pi_ro rfl (fun w hS => ro_loadB rfl sc_9 (Blk.of_heap hB hS) (cel_get' (by omega) V.p0)) ?_
        refine pi_ro rfl (fun w hS => ro_move rfl) ?_
        refine pi_ro rfl (fun w hS => ro_nilCheck rfl) ?_
        refine pi_ro rfl (fun w hS => ro_fieldAddr (k := 1) rfl fo_96_1) ?_
        refine pi_ro rfl (fun w hS => ro_loadB rfl sc_3 (Blk.of_heap hB hS) (cel_get' (by omega) V.i1)) ?_
        refine pi_ro rfl (fun w hS => ro_indexS rfl rfl st_9 (rfl) (hb)) ?_
        refine pi_ro rfl (fun w hS => ro_assign rfl) ?_
        refine pi_nil (x_then (hK1 _ _ ?_))
        clear hK1 K1
        refine c_seq (fun K2 hK2 => ?_)
        refine c_seq (fun K3 hK3 => ?_)
        refine c_reg ?_ -- region 1 syn.go:157
        refine wl (ro_move rfl) ?_
        refine wl (ro_cmp rfl rfl rfl) ?_
        refine wl (ro_move rfl) ?_
        refine wlg_yes rfl (ro_move rfl) ?_
        refine wlg_yes rfl (ro_cmp rfl rfl rfl) ?_
        refine wl (ro_pick rfl rfl rfl) ?_
        refine wl (ro_move rfl) ?_
        refine wlg_yes rfl (ro_move rfl) ?_
        refine wlg_yes rfl (ro_cmp rfl rfl rfl) ?_
        refine wl (ro_pick rfl rfl rfl) ?_
        refine wl (ro_move rfl) ?_
        refine wlg_yes rfl (ro_move rfl) ?_
        refine wlg_yes rfl (ro_cmp rfl rfl rfl) ?_
        refine wl (ro_pick rfl rfl rfl) ?_
        refine wl_nil (x_then (hK3 _ _ ?_))
        clear hK3 K3
        refine wc_condF rfl ?_
        refine c_skip (x_then (hK2 _ _ ?_))
        clear hK2 K2
        refine forget [(0, _), (2, _)] ⟨rfl, rfl, trivial⟩ (fun e => ?_)
        refine c_seq (fun K4 hK4 => ?_)
        refine c_reg ?_ -- region 3 syn.go:161
        refine wl (ro_move rfl) ?_
        refine wl_call rfl en_95 (join95 hB V) ?_
        rintro _ w2 ⟨rfl, hP, F2⟩
        replace hF := hF.thenDrew.trans F2
        obtain ⟨f1, T1, hB, V1⟩ := hP.1 _ hj
        refine wl_nil (x_then (hK4 _ _ ?_))
        clear hK4 K4
        refine c_seq (fun K5 hK5 => ?_)
        refine c_seq (fun K6 hK6 => ?_)
        refine c_reg ?_ -- region 4 syn.go:162
        refine wl (ro_move rfl) ?_
        refine wl (ro_nilCheck rfl) ?_
        refine wl (ro_fieldAddr (k := 323) rfl fo_96_8) ?_
        refine wl (ro_loadB rfl sc_53 (hB) (cel_get' (by omega) V1.er)) ?_
        refine wl (ro_cmp rfl rfl rfl) ?_
        refine wl_nil (x_then (hK6 _ _ ?_))
        clear hK6 K6
        refine wc_condF rfl ?_
        refine c_skip (x_then (hK5 _ _ ?_))
        clear hK5 K5
        refine forget [(0, _), (2, _)] ⟨rfl, rfl, trivial⟩ (fun e => ?_)
        refine c_seq (fun K7 hK7 => ?_)
        refine c_reg ?_ -- region 5 syn.go:165
        refine wl (ro_move rfl) ?_
        refine wl_nil (x_then (hK7 _ _ ?_))
        clear hK7 K7
        refine c_block ?_
        refine forget [(0, _), (2, _), (41, _)] ⟨rfl, rfl, rfl, trivial⟩ (fun e => ?_)
        refine c_seq (fun K8 hK8 => ?_)
        refine c_reg ?_ -- region 9 syn.go:166
        refine wl (ro_cmp rfl rfl rfl) ?_
        refine wl (ro_assign rfl) ?_
        refine wl_nil (x_then (hK8 _ _ ?_))
        clear hK8 K8
        refine wc_condF rfl ?_
        refine c_seq (fun K9 hK9 => ?_)
        refine c_reg ?_ -- region 12 syn.go:169
        refine wl (ro_cmp rfl rfl rfl) ?_
        refine wl (ro_assign rfl) ?_
        refine wl_nil (x_then (hK9 _ _ ?_))
        clear hK9 K9
        refine wc_condF rfl ?_
        refine c_seq (fun K10 hK10 => ?_)
        refine c_reg ?_ -- region 14 syn.go:171
        refine wl (ro_cmp rfl rfl rfl) ?_
        refine wl (ro_assign rfl) ?_
        refine wl_nil (x_then (hK10 _ _ ?_))
        clear hK10 K10
        refine wc_condT rfl ?_
        refine c_reg ?_ -- region 15 syn.go:172
        refine wl (ro_move rfl) ?_
        refine wl_call rfl en_124 (open124 hB V1 hi1) ?_
        rintro _ w3 ⟨rfl, hP3, F3⟩
        refine wl_nil (x_blk ?_)
        refine bp_end Tryz.results94 rfl ?_
        exact ⟨rfl, hP3.weak, hF.trans F3⟩
      by_cases h91 : b = 91
      · subst h91
        refine ret_of Tryz.func94 rfl Tryz.ntmps94 rfl ?_
        refine c_seq (fun K1 hK1 => ?_)
        refine c_pi [(0, false), (1, false), (2, false), (3, false), (4, false), (5, false), (6, false), (7, false), (8, false), (9, false)] (SameH _) mixed (by kernel_rfl) rfl (by kernel_rfl) (po_then (po_bp)) (sameH_now _ _) ?_ -- region 0 syn.go:156
        refine pi_ro rfl (fun w hS => ro_move rfl) ?_
        refine pi_ro rfl (fun w hS => ro_nilCheck rfl) ?_
        refine pi_ro rfl (fun w hS => ro_fieldAddr (k := 0) rfl fo_96_0) ?_
        refine pi_ro rfl (fun w hS => ro_loadB rfl sc_9 (Blk.of_heap hB hS) (cel_get' (by omega) V.p0)) ?_
        refine pi_ro rfl (fun w hS => ro_move rfl) ?_
        refine pi_ro rfl (fun w hS => ro_nilCheck rfl) ?_
        refine pi_ro rfl (fun w hS => ro_fieldAddr (k := 1) rfl fo_96_1) ?_
        refine pi_ro rfl (fun w hS => ro_loadB rfl sc_3 (Blk.of_heap hB hS) (cel_get' (by omega) V.i1)) ?_
        refine pi_ro rfl (fun w hS => ro_indexS rfl rfl st_9 (rfl) (hb)) ?_
        refine pi_ro rfl (fun w hS => ro_assign rfl) ?_
        refine pi_nil (x_then (hK1 _ _ ?_))
        clear hK1 K1
        refine c_seq (fun K2 hK2 => ?_)
        refine c_seq (fun K3 hK3 => ?_)
        refine c_reg ?_ -- region 1 syn.go:157
        refine wl (ro_move rfl) ?_
        refine wl (ro_cmp rfl rfl rfl) ?_
        refine wl (ro_move rfl) ?_
        refine wlg_yes rfl (ro_move rfl) ?_
        refine wlg_yes rfl (ro_cmp rfl rfl rfl) ?_
        refine wl (ro_pick rfl rfl rfl) ?_
        refine wl (ro_move rfl) ?_
        refine wlg_yes rfl (ro_move rfl) ?_
        refine wlg_yes rfl (ro_cmp rfl rfl rfl) ?_
        refine wl (ro_pick rfl rfl rfl) ?_
        refine wl (ro_move rfl) ?_
        refine wlg_yes rfl (ro_move rfl) ?_
        refine wlg_yes rfl (ro_cmp rfl rfl rfl) ?_
        refine wl (ro_pick rfl rfl rfl) ?_
        refine wl_nil (x_then (hK3 _ _ ?_))
        clear hK3 K3
        refine wc_condF rfl ?_
        refine c_skip (x_then (hK2 _ _ ?_))
        clear hK2 K2
        refine forget [(0, _), (2, _)] ⟨rfl, rfl, trivial⟩ (fun e => ?_)
        refine c_seq (fun K4 hK4 => ?_)
        refine c_reg ?_ -- region 3 syn.go:161
        refine wl (ro_move rfl) ?_
        refine wl_call rfl en_95 (join95 hB V) ?_
        rintro _ w2 ⟨rfl, hP, F2⟩
        replace hF := hF.thenDrew.trans F2
        obtain ⟨f1, T1, hB, V1⟩ := hP.1 _ hj
        refine wl_nil (x_then (hK4 _ _ ?_))
        clear hK4 K4
        refine c_seq (fun K5 hK5 => ?_)
        refine c_seq (fun K6 hK6 => ?_)
        refine c_reg ?_ -- region 4 syn.go:162
        refine wl (ro_move rfl) ?_
        refine wl (ro_nilCheck rfl) ?_
        refine wl (ro_fieldAddr (k := 323) rfl fo_96_8) ?_
        refine wl (ro_loadB rfl sc_53 (hB) (cel_get' (by omega) V1.er)) ?_
        refine wl (ro_cmp rfl rfl rfl) ?_
        refine wl_nil (x_then (hK6 _ _ ?_))
        clear hK6 K6
        refine wc_condF rfl ?_
        refine c_skip (x_then (hK5 _ _ ?_))
        clear hK5 K5
        refine forget [(0, _), (2, _)] ⟨rfl, rfl, trivial⟩ (fun e => ?_)
        refine c_seq (fun K7 hK7 => ?_)
        refine c_reg ?_ -- region 5 syn.go:165
        refine wl (ro_move rfl) ?_
        refine wl_nil (x_then (hK7 _ _ ?_))
        clear hK7 K7
        refine c_block ?_
        refine forget [(0, _), (2, _), (41, _)] ⟨rfl, rfl, rfl, trivial⟩ (fun e => ?_)
        refine c_seq (fun K8 hK8 => ?_)
        refine c_reg ?_ -- region 9 syn.go:166
        refine wl (ro_cmp rfl rfl rfl) ?_
        refine wl (ro_assign rfl) ?_
        refine wl_nil (x_then (hK8 _ _ ?_))
        clear hK8 K8
        refine wc_condF rfl ?_
        refine c_seq (fun K9 hK9 => ?_)
        refine c_reg ?_ -- region 12 syn.go:169
        refine wl (ro_cmp rfl rfl rfl) ?_
        refine wl (ro_assign rfl) ?_
        refine wl_nil (x_then (hK9 _ _ ?_))
        clear hK9 K9
        refine wc_condF rfl ?_
        refine c_seq (fun K10 hK10 => ?_)
        refine c_reg ?_ -- region 14 syn.go:171
        refine wl (ro_cmp rfl rfl rfl) ?_
        refine wl (ro_assign rfl) ?_
        refine wl_nil (x_then (hK10 _ _ ?_))
        clear hK10 K10
        refine wc_condF rfl ?_
        refine c_seq (fun K11 hK11 => ?_)
        refine c_reg ?_ -- region 16 syn.go:173
        refine wl (ro_cmp rfl rfl rfl) ?_
        refine wl (ro_assign rfl) ?_
        refine wl_nil (x_then (hK11 _ _ ?_))
        clear hK11 K11
        refine wc_condT rfl ?_
        refine c_reg ?_ -- region 17 syn.go:174
        refine wl (ro_move rfl) ?_
        refine wl_call rfl en_125 (class125 hB V1 hi1) ?_
        rintro _ w3 ⟨rfl, hP3, F3⟩
        refine wl_nil (x_blk ?_)
        refine bp_end Tryz.results94 rfl ?_
        exact ⟨rfl, by rw [show actR p σ1 91 = leafR p σ1 91 from rfl, leafR_cls]; exact hP3.weak, hF.trans F3⟩
      by_cases h92 : b = 92
      · subst h92
        refine ret_of Tryz.func94 rfl Tryz.ntmps94 rfl ?_
        refine c_seq (fun K1 hK1 => ?_)
        refine c_pi [(0, false), (1, false), (2, false), (3, false), (4, false), (5, false), (6, false), (7, false), (8, false), (9, false)] (SameH _) mixed (by kernel_rfl) rfl (by kernel_rfl) (po_then (po_bp)) (sameH_now _ _) ?_ -- region 0 syn.go:156
        refine pi_ro rfl (fun w hS => ro_move rfl) ?_
        refine pi_ro rfl (fun w hS => ro_nilCheck rfl) ?_
        refine pi_ro rfl (fun w hS => ro_fieldAddr (k := 0) rfl fo_96_0) ?_
        refine pi_ro rfl (fun w hS => ro_loadB rfl sc_9 (Blk.of_heap hB hS) (cel_get' (by omega) V.p0)) ?_
        refine pi_ro rfl (fun w hS => ro_move rfl) ?_
        refine pi_ro rfl (fun w hS => ro_nilCheck rfl) ?_
        refine pi_ro rfl (fun w hS => ro_fieldAddr (k := 1) rfl fo_96_1) ?_
        refine pi_ro rfl (fun w hS => ro_loadB rfl sc_3 (Blk.of_heap hB hS) (cel_get' (by omega) V.i1)) ?_
        refine pi_ro rfl (fun w hS => ro_indexS rfl rfl st_9 (rfl) (hb)) ?_
        refine pi_ro rfl (fun w hS => ro_assign rfl) ?_
        refine pi_nil (x_then (hK1 _ _ ?_))
        clear hK1 K1
        refine c_seq (fun K2 hK2 => ?_)
        refine c_seq (fun K3 hK3 => ?_)
        refine c_reg ?_ -- region 1 syn.go:157
        refine wl (ro_move rfl) ?_
        refine wl (ro_cmp rfl rfl rfl) ?_
        refine wl (ro_move rfl) ?_
        refine wlg_yes rfl (ro_move rfl) ?_
        refine wlg_yes rfl (ro_cmp rfl rfl rfl) ?_
        refine wl (ro_pick rfl rfl rfl) ?_
        refine wl (ro_move rfl) ?_
        refine wlg_yes rfl (ro_move rfl) ?_
        refine wlg_yes rfl (ro_cmp rfl rfl rfl) ?_
        refine wl (ro_pick rfl rfl rfl) ?_
        refine wl (ro_move rfl) ?_
        refine wlg_yes rfl (ro_move rfl) ?_
        refine wlg_yes rfl (ro_cmp rfl rfl rfl) ?_
        refine wl (ro_pick rfl rfl rfl) ?_
        refine wl_nil (x_then (hK3 _ _ ?_))
        clear hK3 K3
        refine wc_condF rfl ?_
        refine c_skip (x_then (hK2 _ _ ?_))
        clear hK2 K2
        refine forget [(0, _), (2, _)] ⟨rfl, rfl, trivial⟩ (fun e => ?_)
        refine c_seq (fun K4 hK4 => ?_)
        refine c_reg ?_ -- region 3 syn.go:161
        refine wl (ro_move rfl) ?_
        refine wl_call rfl en_95 (join95 hB V) ?_
        rintro _ w2 ⟨rfl, hP, F2⟩
        replace hF := hF.thenDrew.trans F2
        obtain ⟨f1, T1, hB, V1⟩ := hP.1 _ hj
        refine wl_nil (x_then (hK4 _ _ ?_))
        clear hK4 K4
        refine c_seq (fun K5 hK5 => ?_)
        refine c_seq (fun K6 hK6 => ?_)
        refine c_reg ?_ -- region 4 syn.go:162
        refine wl (ro_move rfl) ?_
        refine wl (ro_nilCheck rfl) ?_
        refine wl (ro_fieldAddr (k := 323) rfl fo_96_8) ?_
        refine wl (ro_loadB rfl sc_53 (hB) (cel_get' (by omega) V1.er)) ?_
        refine wl (ro_cmp rfl rfl rfl) ?_
        refine wl_nil (x_then (hK6 _ _ ?_))
        clear hK6 K6
        refine wc_condF rfl ?_
        refine c_skip (x_then (hK5 _ _ ?_))
        clear hK5 K5
        refine forget [(0, _), (2, _)] ⟨rfl, rfl, trivial⟩ (fun e => ?_)
        refine c_seq (fun K7 hK7 => ?_)
        refine c_reg ?_ -- region 5 syn.go:165
        refine wl (ro_move rfl) ?_
        refine wl_nil (x_then (hK7 _ _ ?_))
        clear hK7 K7
        refine c_block ?_
        refine forget [(0, _), (2, _), (41, _)] ⟨rfl, rfl, rfl, trivial⟩ (fun e => ?_)
        refine c_seq (fun K8 hK8 => ?_)
        refine c_reg ?_ -- region 9 syn.go:166
        refine wl (ro_cmp rfl rfl rfl) ?_
        refine wl (ro_assign rfl) ?_
        refine wl_nil (x_then (hK8 _ _ ?_))
        clear hK8 K8
        refine wc_condF rfl ?_
        refine c_seq (fun K9 hK9 => ?_)
        refine c_reg ?_ -- region 12 syn.go:169
        refine wl (ro_cmp rfl rfl rfl) ?_
        refine wl (ro_assign rfl) ?_
        refine wl_nil (x_then (hK9 _ _ ?_))
        clear hK9 K9
        refine wc_condF rfl ?_
        refine c_seq (fun K10 hK10 => ?_)
        refine c_reg ?_ -- region 14 syn.go:171
        refine wl (ro_cmp rfl rfl rfl) ?_
        refine wl (ro_assign rfl) ?_
        refine wl_nil (x_then (hK10 _ _ ?_))
        clear hK10 K10
        refine wc_condF rfl ?_
        refine c_seq (fun K11 hK11 => ?_)
        refine c_reg ?_ -- region 16 syn.go:173
        refine wl (ro_cmp rfl rfl rfl) ?_
        refine wl (ro_assign rfl) ?_
        refine wl_nil (x_then (hK11 _ _ ?_))
        clear hK11 K11
        refine wc_condF rfl ?_
        refine c_seq (fun K12 hK12 => ?_)
        refine c_reg ?_ -- region 18 syn.go:175
        refine wl (ro_cmp rfl rfl rfl) ?_
        refine wl (ro_assign rfl) ?_
        refine wl_nil (x_then (hK12 _ _ ?_))
        clear hK12 K12
        refine wc_condT rfl ?_
        refine c_seq (fun K13 hK13 => ?_)
        refine c_reg ?_ -- region 19 syn.go:176
        refine wl (ro_move rfl) ?_
        refine wl_call rfl en_126 (escape126 hB V1 hi1) ?_
        rintro _ w3 ⟨⟨Z4, b4, o4, f4, ec4, rfl, hB, hec4, hP4⟩, F3⟩
        replace hF := hF.thenDrew.trans F3
        refine wl (ro_move rfl) ?_
        refine wl (ro_extract rfl rfl) ?_
        refine wl (ro_extract rfl rfl) ?_
        refine wl (ro_extract rfl rfl) ?_
        refine wl_new (ze_87) (fun ab w1 hbab hA F1 => ?_)
        have hbsab := Nat.le_trans hF.size hbab
        have hnexbab : xb < ab := Nat.lt_of_lt_of_le hB.lt hbab
        replace hF := hF.thenDrew.thenN F1
        replace hB := F1.blkN hB
        refine wl_puta rfl rfl (by simp [Value.oneCell', i64c, u64c, u8c, ptr]) sz_87 (rfl) hA ((by simp)) (rfl) (fun w2 hA F2 => ?_)
        replace hF := hF.thenDrew.thenO F2 (by first | exact .inr (by omega) | exact .inl rfl | exact .inl (by assumption))
        replace hB := F2.blkO hB (by omega)
        refine wl (ro_assign rfl) ?_
        refine wl (ro_assign rfl) ?_
        refine wl_nil (x_then (hK13 _ _ ?_))
        clear hK13 K13
        refine forget [(0, _), (3, _)] ⟨rfl, rfl, trivial⟩ (fun e => ?_)
        refine c_seq (fun K14 hK14 => ?_)
        refine c_reg ?_ -- region 20 syn.go:177
        refine wl (ro_move rfl) ?_
        refine wl (ro_nilCheck rfl) ?_
        refine wl (ro_fieldAddr (k := 323) rfl fo_96_8) ?_
        refine wl (ro_loadB rfl sc_53 (hB) (cel_get' (by omega) hec4)) ?_
        refine wl (ro_cmp (r := decide (ec4 = 0)) rfl rfl (congrArg some (beqc ec4 0))) ?_
        refine wl_nil (x_then (hK14 _ _ ?_))
        clear hK14 K14
        refine wc_cond rfl (fun hc90 => ?_) (fun hc90 => ?_)
        · try simp only [decide_eq_true_eq, decide_eq_false_iff_not, Bool.not_eq_true', Bool.not_eq_false', Bool.not_eq_eq_eq_not, Bool.not_true, Bool.not_false, beq_iff_eq, bne_iff_ne, ne_eq, beq_eq_false_iff_ne, bne_eq_false_iff_eq, gt_iff_lt, ge_iff_le, Int.not_lt, Int.not_le] at hc90
          have hec0 : ec4 = 0 := by simpa using hc90
          obtain ⟨j4, hX4, V4⟩ : ∃ j, esc p σ1.i = .ok (Z4, o4, b4.toNat, j) ∧ PV f4 p { σ1 with i := j } T1 := by rcases hP4 with h | h; exact h.2; exact absurd hec0 h.1
          clear hP4
          have hX : actR p σ1 92 = leafX { σ1 with i := j4 } (.set Z4) := leafR_set (b := 92) (by show (match esc p σ1.i with | .error e => .error e | .ok (S, _, _, j) => .ok (RE.set S, j) : Except Er (RE × Nat)) = _; rw [hX4])
          refine c_reg ?_ -- region 21 syn.go:178
          refine wl (ro_move rfl) ?_
          refine wl (ro_loadAggB rfl ag_87 (hA) rfl rfl) ?_
          refine wl_call rfl en_127 (leaf127 (k := 1) (r := RE.set Z4) (Z := Z4) hB V4 rfl) ?_
          rintro _ w5 ⟨rfl, hP5, F5⟩
          refine wl_nil (x_blk ?_)
          refine bp_end Tryz.results94 rfl ?_
          exact ⟨rfl, by rw [hX]; exact hP5.weak, hF.trans F5⟩
        · try simp only [decide_eq_true_eq, decide_eq_false_iff_not, Bool.not_eq_true', Bool.not_eq_false', Bool.not_eq_eq_eq_not, Bool.not_true, Bool.not_false, beq_iff_eq, bne_iff_ne, ne_eq, beq_eq_false_iff_ne, bne_eq_false_iff_eq, gt_iff_lt, ge_iff_le, Int.not_lt, Int.not_le] at hc90
          have hec0 : ec4 ≠ 0 := by simpa using hc90
          obtain ⟨e4, hX4, he4, E4⟩ : ∃ e, esc p σ1.i = .error e ∧ e.1 = ec4 ∧ ERR f4 e := by rcases hP4 with h | h; exact absurd h.1 hec0; exact h.2
          have hX : actR p σ1 92 = .error e4 := leafR_esc hX4
          refine c_skip (x_blk ?_)
          refine bp_end Tryz.results94 rfl ?_
          exact ⟨rfl, (RP.er hB E4 hX).weak, hF⟩
      by_cases h46 : b = 46
      · subst h46
        refine ret_of Tryz.func94 rfl Tryz.ntmps94 rfl ?_
        refine c_seq (fun K1 hK1 => ?_)
        refine c_pi [(0, false), (1, false), (2, false), (3, false), (4, false), (5, false), (6, false), (7, false), (8, false), (9, false)] (SameH _) mixed (by kernel_rfl) rfl (by kernel_rfl) (po_then (po_bp)) (sameH_now _ _) ?_ -- region 0 syn.go:156
        refine pi_ro rfl (fun w hS => ro_move rfl) ?_
        refine pi_ro rfl (fun w hS => ro_nilCheck rfl) ?_
        refine pi_ro rfl (fun w hS => ro_fieldAddr (k := 0) rfl fo_96_0) ?_
        refine pi_ro rfl (fun w hS => ro_loadB rfl sc_9 (Blk.of_heap hB hS) (cel_get' (by omega) V.p0)) ?_
        refine pi_ro rfl (fun w hS => ro_move rfl) ?_
        refine pi_ro rfl (fun w hS => ro_nilCheck rfl) ?_
        refine pi_ro rfl (fun w hS => ro_fieldAddr (k := 1) rfl fo_96_1) ?_
        refine pi_ro rfl (fun w hS => ro_loadB rfl sc_3 (Blk.of_heap hB hS) (cel_get' (by omega) V.i1)) ?_
        refine pi_ro rfl (fun w hS => ro_indexS rfl rfl st_9 (rfl) (hb)) ?_
        refine pi_ro rfl (fun w hS => ro_assign rfl) ?_
        refine pi_nil (x_then (hK1 _ _ ?_))
        clear hK1 K1
        refine c_seq (fun K2 hK2 => ?_)
        refine c_seq (fun K3 hK3 => ?_)
        refine c_reg ?_ -- region 1 syn.go:157
        refine wl (ro_move rfl) ?_
        refine wl (ro_cmp rfl rfl rfl) ?_
        refine wl (ro_move rfl) ?_
        refine wlg_yes rfl (ro_move rfl) ?_
        refine wlg_yes rfl (ro_cmp rfl rfl rfl) ?_
        refine wl (ro_pick rfl rfl rfl) ?_
        refine wl (ro_move rfl) ?_
        refine wlg_yes rfl (ro_move rfl) ?_
        refine wlg_yes rfl (ro_cmp rfl rfl rfl) ?_
        refine wl (ro_pick rfl rfl rfl) ?_
        refine wl (ro_move rfl) ?_
        refine wlg_yes rfl (ro_move rfl) ?_
        refine wlg_yes rfl (ro_cmp rfl rfl rfl) ?_
        refine wl (ro_pick rfl rfl rfl) ?_
        refine wl_nil (x_then (hK3 _ _ ?_))
        clear hK3 K3
        refine wc_condF rfl ?_
        refine c_skip (x_then (hK2 _ _ ?_))
        clear hK2 K2
        refine forget [(0, _), (2, _)] ⟨rfl, rfl, trivial⟩ (fun e => ?_)
        refine c_seq (fun K4 hK4 => ?_)
        refine c_reg ?_ -- region 3 syn.go:161
        refine wl (ro_move rfl) ?_
        refine wl_call rfl en_95 (join95 hB V) ?_
        rintro _ w2 ⟨rfl, hP, F2⟩
        replace hF := hF.thenDrew.trans F2
        obtain ⟨f1, T1, hB, V1⟩ := hP.1 _ hj
        refine wl_nil (x_then (hK4 _ _ ?_))
        clear hK4 K4
        refine c_seq (fun K5 hK5 => ?_)
        refine c_seq (fun K6 hK6 => ?_)
        refine c_reg ?_ -- region 4 syn.go:162
        refine wl (ro_move rfl) ?_
        refine wl (ro_nilCheck rfl) ?_
        refine wl (ro_fieldAddr (k := 323) rfl fo_96_8) ?_
        refine wl (ro_loadB rfl sc_53 (hB) (cel_get' (by omega) V1.er)) ?_
        refine wl (ro_cmp rfl rfl rfl) ?_
        refine wl_nil (x_then (hK6 _ _ ?_))
        clear hK6 K6
        refine wc_condF rfl ?_
        refine c_skip (x_then (hK5 _ _ ?_))
        clear hK5 K5
        refine forget [(0, _), (2, _)] ⟨rfl, rfl, trivial⟩ (fun e => ?_)
        refine c_seq (fun K7 hK7 => ?_)
        refine c_reg ?_ -- region 5 syn.go:165
        refine wl (ro_move rfl) ?_
        refine wl_nil (x_then (hK7 _ _ ?_))
        clear hK7 K7
        refine c_block ?_
        refine forget [(0, _), (2, _), (41, _)] ⟨rfl, rfl, rfl, trivial⟩ (fun e => ?_)
        refine c_seq (fun K8 hK8 => ?_)
        refine c_reg ?_ -- region 9 syn.go:166
        refine wl (ro_cmp rfl rfl rfl) ?_
        refine wl (ro_assign rfl) ?_
        refine wl_nil (x_then (hK8 _ _ ?_))
        clear hK8 K8
        refine wc_condF rfl ?_
        refine c_seq (fun K9 hK9 => ?_)
        refine c_reg ?_ -- region 12 syn.go:169
        refine wl (ro_cmp rfl rfl rfl) ?_
        refine wl (ro_assign rfl) ?_
        refine wl_nil (x_then (hK9 _ _ ?_))
        clear hK9 K9
        refine wc_condF rfl ?_
        refine c_seq (fun K10 hK10 => ?_)
        refine c_reg ?_ -- region 14 syn.go:171
        refine wl (ro_cmp rfl rfl rfl) ?_
        refine wl (ro_assign rfl) ?_
        refine wl_nil (x_then (hK10 _ _ ?_))
        clear hK10 K10
        refine wc_condF rfl ?_
        refine c_seq (fun K11 hK11 => ?_)
        refine c_reg ?_ -- region 16 syn.go:173
        refine wl (ro_cmp rfl rfl rfl) ?_
        refine wl (ro_assign rfl) ?_
        refine wl_nil (x_then (hK11 _ _ ?_))
        clear hK11 K11
        refine wc_condF rfl ?_
        refine c_seq (fun K12 hK12 => ?_)
        refine c_reg ?_ -- region 18 syn.go:175
        refine wl (ro_cmp rfl rfl rfl) ?_
        refine wl (ro_assign rfl) ?_
        refine wl_nil (x_then (hK12 _ _ ?_))
        clear hK12 K12
        refine wc_condF rfl ?_
        refine c_seq (fun K13 hK13 => ?_)
        refine c_reg ?_ -- region 22 syn.go:180
        refine wl (ro_cmp rfl rfl rfl) ?_
        refine wl (ro_assign rfl) ?_
        refine wl_nil (x_then (hK13 _ _ ?_))
        clear hK13 K13
        refine wc_condT rfl ?_
        refine c_seq (fun K14 hK14 => ?_)
        refine c_reg ?_ -- region 23 syn.go:181
        refine wl (ro_move rfl) ?_
        refine wl (ro_nilCheck rfl) ?_
        refine wl (ro_fieldAddr (k := 1) rfl fo_96_1) ?_
        refine wl (ro_loadB rfl sc_3 (hB) (cel_get' (by omega) V1.i1)) ?_
        refine wl (ro_arith rfl rfl rfl (Go.IntWalk.i64_in _ (by omega))) ?_
        refine wl (ro_nilCheck rfl) ?_
        refine wl (ro_fieldAddr (k := 1) rfl fo_96_1) ?_
        refine wl_put rfl rfl rfl sz_3 hB ((cel_lt (by omega))) ((cel_put 1 (by omega))) (fun w1 hB F1 => ?_)
        replace hF := hF.thenDrew.thenO F1 (by first | exact .inr (by omega) | exact .inl rfl | exact .inl (by assumption))
        have V3 : PV (pt f1 1 (i64c (σ1.i + 1))) p { σ1 with i := σ1.i + 1 } T1 := V1.setI (i := σ1.i + 1) (by omega)
        refine wl_nil (x_then (hK14 _ _ ?_))
        clear hK14 K14
        refine forget [(0, _)] ⟨rfl, trivial⟩ (fun e => ?_)
        refine c_seq (fun K15 hK15 => ?_)
        refine c_reg ?_ -- region 24 syn.go:182
        refine wl_call rfl en_128 (between128 (lo := 10) (hi := 10)) ?_
        rintro _ w2 ⟨rfl, F2⟩
        replace hF := hF.thenDrew.thenN F2
        replace hB := F2.blkN hB
        refine wl_new (ze_87) (fun ab w3 hbab hA F3 => ?_)
        have hbsab := Nat.le_trans hF.size hbab
        have hnexbab : xb < ab := Nat.lt_of_lt_of_le hB.lt hbab
        replace hF := hF.thenDrew.thenN F3
        replace hB := F3.blkN hB
        refine wl_puta rfl rfl (by simp [Value.oneCell', i64c, u64c, u8c, ptr]) sz_87 (rfl) hA ((by simp)) (rfl) (fun w4 hA F4 => ?_)
        replace hF := hF.thenDrew.thenO F4 (by first | exact .inr (by omega) | exact .inl rfl | exact .inl (by assumption))
        replace hB := F4.blkO hB (by omega)
        refine wl_nil (x_then (hK15 _ _ ?_))
        clear hK15 K15
        refine forget [(0, _), (6, _)] ⟨rfl, rfl, trivial⟩ (fun e => ?_)
        refine c_seq (fun K16 hK16 => ?_)
        refine c_reg ?_ -- region 25 syn.go:183
        refine wl (ro_loadAggB rfl ag_87 (hA) rfl rfl) ?_
        refine wl_call rfl en_129 (Not129) ?_
        rintro _ w5 ⟨rfl, F5⟩
        replace hF := hF.thenDrew.thenN F5
        replace hB := F5.blkN hB
        replace hA := F5.blkN hA
        refine wl_new (ze_87) (fun cb w6 hbcb hC F6 => ?_)
        have hbscb := Nat.le_trans hF.size hbcb
        have hnexbcb : xb < cb := Nat.lt_of_lt_of_le hB.lt hbcb
        have hneabcb : ab < cb := Nat.lt_of_lt_of_le hA.lt hbcb
        replace hF := hF.thenDrew.thenN F6
        replace hB := F6.blkN hB
        replace hA := F6.blkN hA
        refine wl_puta rfl rfl (by simp [Value.oneCell', i64c, u64c, u8c, ptr]) sz_87 (rfl) hC ((by simp)) (rfl) (fun w7 hC F7 => ?_)
        replace hF := hF.thenDrew.thenO F7 (by first | exact .inr (by omega) | exact .inl rfl | exact .inl (by assumption))
        replace hB := F7.blkO hB (by omega)
        replace hA := F7.blkO hA (by omega)
        refine wl_nil (x_then (hK16 _ _ ?_))
        clear hK16 K16
        refine c_reg ?_ -- region 26 syn.go:184
        refine wl (ro_move rfl) ?_
        refine wl (ro_loadAggB rfl ag_87 (hC) rfl rfl) ?_
        refine wl_call rfl en_127 (leaf127 (k := 1) (r := RE.set (cpl (rng 10 10))) (Z := cpl (rng 10 10)) hB V3 rfl) ?_
        rintro _ w5 ⟨rfl, hP5, F5⟩
        refine wl_nil (x_blk ?_)
        refine bp_end Tryz.results94 rfl ?_
        exact ⟨rfl, by rw [show actR p σ1 46 = leafX { σ1 with i := σ1.i + 1 } (.set (cpl (rng 10 10))) from leafR_set (p := p) (b := 46) rfl]; exact hP5.weak, hF.trans F5⟩
      by_cases h94 : b = 94
      · subst h94
        refine ret_of Tryz.func94 rfl Tryz.ntmps94 rfl ?_
        refine c_seq (fun K1 hK1 => ?_)
        refine c_pi [(0, false), (1, false), (2, false), (3, false), (4, false), (5, false), (6, false), (7, false), (8, false), (9, false)] (SameH _) mixed (by kernel_rfl) rfl (by kernel_rfl) (po_then (po_bp)) (sameH_now _ _) ?_ -- region 0 syn.go:156
        refine pi_ro rfl (fun w hS => ro_move rfl) ?_
        refine pi_ro rfl (fun w hS => ro_nilCheck rfl) ?_
        refine pi_ro rfl (fun w hS => ro_fieldAddr (k := 0) rfl fo_96_0) ?_
        refine pi_ro rfl (fun w hS => ro_loadB rfl sc_9 (Blk.of_heap hB hS) (cel_get' (by omega) V.p0)) ?_
        refine pi_ro rfl (fun w hS => ro_move rfl) ?_
        refine pi_ro rfl (fun w hS => ro_nilCheck rfl) ?_
        refine pi_ro rfl (fun w hS => ro_fieldAddr (k := 1) rfl fo_96_1) ?_
        refine pi_ro rfl (fun w hS => ro_loadB rfl sc_3 (Blk.of_heap hB hS) (cel_get' (by omega) V.i1)) ?_
        refine pi_ro rfl (fun w hS => ro_indexS rfl rfl st_9 (rfl) (hb)) ?_
        refine pi_ro rfl (fun w hS => ro_assign rfl) ?_
        refine pi_nil (x_then (hK1 _ _ ?_))
        clear hK1 K1
        refine c_seq (fun K2 hK2 => ?_)
        refine c_seq (fun K3 hK3 => ?_)
        refine c_reg ?_ -- region 1 syn.go:157
        refine wl (ro_move rfl) ?_
        refine wl (ro_cmp rfl rfl rfl) ?_
        refine wl (ro_move rfl) ?_
        refine wlg_yes rfl (ro_move rfl) ?_
        refine wlg_yes rfl (ro_cmp rfl rfl rfl) ?_
        refine wl (ro_pick rfl rfl rfl) ?_
        refine wl (ro_move rfl) ?_
        refine wlg_yes rfl (ro_move rfl) ?_
        refine wlg_yes rfl (ro_cmp rfl rfl rfl) ?_
        refine wl (ro_pick rfl rfl rfl) ?_
        refine wl (ro_move rfl) ?_
        refine wlg_yes rfl (ro_move rfl) ?_
        refine wlg_yes rfl (ro_cmp rfl rfl rfl) ?_
        refine wl (ro_pick rfl rfl rfl) ?_
        refine wl_nil (x_then (hK3 _ _ ?_))
        clear hK3 K3
        refine wc_condF rfl ?_
        refine c_skip (x_then (hK2 _ _ ?_))
        clear hK2 K2
        refine forget [(0, _), (2, _)] ⟨rfl, rfl, trivial⟩ (fun e => ?_)
        refine c_seq (fun K4 hK4 => ?_)
        refine c_reg ?_ -- region 3 syn.go:161
        refine wl (ro_move rfl) ?_
        refine wl_call rfl en_95 (join95 hB V) ?_
        rintro _ w2 ⟨rfl, hP, F2⟩
        replace hF := hF.thenDrew.trans F2
        obtain ⟨f1, T1, hB, V1⟩ := hP.1 _ hj
        refine wl_nil (x_then (hK4 _ _ ?_))
        clear hK4 K4
        refine c_seq (fun K5 hK5 => ?_)
        refine c_seq (fun K6 hK6 => ?_)
        refine c_reg ?_ -- region 4 syn.go:162
        refine wl (ro_move rfl) ?_
        refine wl (ro_nilCheck rfl) ?_
        refine wl (ro_fieldAddr (k := 323) rfl fo_96_8) ?_
        refine wl (ro_loadB rfl sc_53 (hB) (cel_get' (by omega) V1.er)) ?_
        refine wl (ro_cmp rfl rfl rfl) ?_
        refine wl_nil (x_then (hK6 _ _ ?_))
        clear hK6 K6
        refine wc_condF rfl ?_
        refine c_skip (x_then (hK5 _ _ ?_))
        clear hK5 K5
        refine forget [(0, _), (2, _)] ⟨rfl, rfl, trivial⟩ (fun e => ?_)
        refine c_seq (fun K7 hK7 => ?_)
        refine c_reg ?_ -- region 5 syn.go:165
        refine wl (ro_move rfl) ?_
        refine wl_nil (x_then (hK7 _ _ ?_))
        clear hK7 K7
        refine c_block ?_
        refine forget [(0, _), (2, _), (41, _)] ⟨rfl, rfl, rfl, trivial⟩ (fun e => ?_)
        refine c_seq (fun K8 hK8 => ?_)
        refine c_reg ?_ -- region 9 syn.go:166
        refine wl (ro_cmp rfl rfl rfl) ?_
        refine wl (ro_assign rfl) ?_
        refine wl_nil (x_then (hK8 _ _ ?_))
        clear hK8 K8
        refine wc_condF rfl ?_
        refine c_seq (fun K9 hK9 => ?_)
        refine c_reg ?_ -- region 12 syn.go:169
        refine wl (ro_cmp rfl rfl rfl) ?_
        refine wl (ro_assign rfl) ?_
        refine wl_nil (x_then (hK9 _ _ ?_))
        clear hK9 K9
        refine wc_condF rfl ?_
        refine c_seq (fun K10 hK10 => ?_)
        refine c_reg ?_ -- region 14 syn.go:171
        refine wl (ro_cmp rfl rfl rfl) ?_
        refine wl (ro_assign rfl) ?_
        refine wl_nil (x_then (hK10 _ _ ?_))
        clear hK10 K10
        refine wc_condF rfl ?_
        refine c_seq (fun K11 hK11 => ?_)
        refine c_reg ?_ -- region 16 syn.go:173
        refine wl (ro_cmp rfl rfl rfl) ?_
        refine wl (ro_assign rfl) ?_
        refine wl_nil (x_then (hK11 _ _ ?_))
        clear hK11 K11
        refine wc_condF rfl ?_
        refine c_seq (fun K12 hK12 => ?_)
        refine c_reg ?_ -- region 18 syn.go:175
        refine wl (ro_cmp rfl rfl rfl) ?_
        refine wl (ro_assign rfl) ?_
        refine wl_nil (x_then (hK12 _ _ ?_))
        clear hK12 K12
        refine wc_condF rfl ?_
        refine c_seq (fun K13 hK13 => ?_)
        refine c_reg ?_ -- region 22 syn.go:180
        refine wl (ro_cmp rfl rfl rfl) ?_
        refine wl (ro_assign rfl) ?_
        refine wl_nil (x_then (hK13 _ _ ?_))
        clear hK13 K13
        refine wc_condF rfl ?_
        refine c_seq (fun K14 hK14 => ?_)
        refine c_reg ?_ -- region 27 syn.go:185
        refine wl (ro_cmp rfl rfl rfl) ?_
        refine wl (ro_assign rfl) ?_
        refine wl_nil (x_then (hK14 _ _ ?_))
        clear hK14 K14
        refine wc_condT rfl ?_
        refine c_seq (fun K15 hK15 => ?_)
        refine c_reg ?_ -- region 28 syn.go:186
        refine wl (ro_move rfl) ?_
        refine wl (ro_nilCheck rfl) ?_
        refine wl (ro_fieldAddr (k := 1) rfl fo_96_1) ?_
        refine wl (ro_loadB rfl sc_3 (hB) (cel_get' (by omega) V1.i1)) ?_
        refine wl (ro_arith rfl rfl rfl (Go.IntWalk.i64_in _ (by omega))) ?_
        refine wl (ro_nilCheck rfl) ?_
        refine wl (ro_fieldAddr (k := 1) rfl fo_96_1) ?_
        refine wl_put rfl rfl rfl sz_3 hB ((cel_lt (by omega))) ((cel_put 1 (by omega))) (fun w1 hB F1 => ?_)
        replace hF := hF.thenDrew.thenO F1 (by first | exact .inr (by omega) | exact .inl rfl | exact .inl (by assumption))
        have V3 : PV (pt f1 1 (i64c (σ1.i + 1))) p { σ1 with i := σ1.i + 1 } T1 := V1.setI (i := σ1.i + 1) (by omega)
        refine wl_nil (x_then (hK15 _ _ ?_))
        clear hK15 K15
        refine c_reg ?_ -- region 29 syn.go:187
        refine wl (ro_move rfl) ?_
        refine wl (ro_build rfl bld_87) ?_
        rw [zeroS]
        refine wl_call rfl en_127 (leaf127 (k := 2) (r := RE.bgn) (Z := 0) hB V3 rfl) ?_
        rintro _ w5 ⟨rfl, hP5, F5⟩
        refine wl_nil (x_blk ?_)
        refine bp_end Tryz.results94 rfl ?_
        exact ⟨rfl, by rw [show actR p σ1 94 = leafX { σ1 with i := σ1.i + 1 } .bgn from leafR_set (p := p) (b := 94) rfl]; exact hP5.weak, hF.trans F5⟩
      by_cases h36 : b = 36
      · subst h36
        refine ret_of Tryz.func94 rfl Tryz.ntmps94 rfl ?_
        refine c_seq (fun K1 hK1 => ?_)
        refine c_pi [(0, false), (1, false), (2, false), (3, false), (4, false), (5, false), (6, false), (7, false), (8, false), (9, false)] (SameH _) mixed (by kernel_rfl) rfl (by kernel_rfl) (po_then (po_bp)) (sameH_now _ _) ?_ -- region 0 syn.go:156
        refine pi_ro rfl (fun w hS => ro_move rfl) ?_
        refine pi_ro rfl (fun w hS => ro_nilCheck rfl) ?_
        refine pi_ro rfl (fun w hS => ro_fieldAddr (k := 0) rfl fo_96_0) ?_
        refine pi_ro rfl (fun w hS => ro_loadB rfl sc_9 (Blk.of_heap hB hS) (cel_get' (by omega) V.p0)) ?_
        refine pi_ro rfl (fun w hS => ro_move rfl) ?_
        refine pi_ro rfl (fun w hS => ro_nilCheck rfl) ?_
        refine pi_ro rfl (fun w hS => ro_fieldAddr (k := 1) rfl fo_96_1) ?_
        refine pi_ro rfl (fun w hS => ro_loadB rfl sc_3 (Blk.of_heap hB hS) (cel_get' (by omega) V.i1)) ?_
        refine pi_ro rfl (fun w hS => ro_indexS rfl rfl st_9 (rfl) (hb)) ?_
        refine pi_ro rfl (fun w hS => ro_assign rfl) ?_
        refine pi_nil (x_then (hK1 _ _ ?_))
        clear hK1 K1
        refine c_seq (fun K2 hK2 => ?_)
        refine c_seq (fun K3 hK3 => ?_)
        refine c_reg ?_ -- region 1 syn.go:157
        refine wl (ro_move rfl) ?_
        refine wl (ro_cmp rfl rfl rfl) ?_
        refine wl (ro_move rfl) ?_
        refine wlg_yes rfl (ro_move rfl) ?_
        refine wlg_yes rfl (ro_cmp rfl rfl rfl) ?_
        refine wl (ro_pick rfl rfl rfl) ?_
        refine wl (ro_move rfl) ?_
        refine wlg_yes rfl (ro_move rfl) ?_
        refine wlg_yes rfl (ro_cmp rfl rfl rfl) ?_
        refine wl (ro_pick rfl rfl rfl) ?_
        refine wl (ro_move rfl) ?_
        refine wlg_yes rfl (ro_move rfl) ?_
        refine wlg_yes rfl (ro_cmp rfl rfl rfl) ?_
        refine wl (ro_pick rfl rfl rfl) ?_
        refine wl_nil (x_then (hK3 _ _ ?_))
        clear hK3 K3
        refine wc_condF rfl ?_
        refine c_skip (x_then (hK2 _ _ ?_))
        clear hK2 K2
        refine forget [(0, _), (2, _)] ⟨rfl, rfl, trivial⟩ (fun e => ?_)
        refine c_seq (fun K4 hK4 => ?_)
        refine c_reg ?_ -- region 3 syn.go:161
        refine wl (ro_move rfl) ?_
        refine wl_call rfl en_95 (join95 hB V) ?_
        rintro _ w2 ⟨rfl, hP, F2⟩
        replace hF := hF.thenDrew.trans F2
        obtain ⟨f1, T1, hB, V1⟩ := hP.1 _ hj
        refine wl_nil (x_then (hK4 _ _ ?_))
        clear hK4 K4
        refine c_seq (fun K5 hK5 => ?_)
        refine c_seq (fun K6 hK6 => ?_)
        refine c_reg ?_ -- region 4 syn.go:162
        refine wl (ro_move rfl) ?_
        refine wl (ro_nilCheck rfl) ?_
        refine wl (ro_fieldAddr (k := 323) rfl fo_96_8) ?_
        refine wl (ro_loadB rfl sc_53 (hB) (cel_get' (by omega) V1.er)) ?_
        refine wl (ro_cmp rfl rfl rfl) ?_
        refine wl_nil (x_then (hK6 _ _ ?_))
        clear hK6 K6
        refine wc_condF rfl ?_
        refine c_skip (x_then (hK5 _ _ ?_))
        clear hK5 K5
        refine forget [(0, _), (2, _)] ⟨rfl, rfl, trivial⟩ (fun e => ?_)
        refine c_seq (fun K7 hK7 => ?_)
        refine c_reg ?_ -- region 5 syn.go:165
        refine wl (ro_move rfl) ?_
        refine wl_nil (x_then (hK7 _ _ ?_))
        clear hK7 K7
        refine c_block ?_
        refine forget [(0, _), (2, _), (41, _)] ⟨rfl, rfl, rfl, trivial⟩ (fun e => ?_)
        refine c_seq (fun K8 hK8 => ?_)
        refine c_reg ?_ -- region 9 syn.go:166
        refine wl (ro_cmp rfl rfl rfl) ?_
        refine wl (ro_assign rfl) ?_
        refine wl_nil (x_then (hK8 _ _ ?_))
        clear hK8 K8
        refine wc_condF rfl ?_
        refine c_seq (fun K9 hK9 => ?_)
        refine c_reg ?_ -- region 12 syn.go:169
        refine wl (ro_cmp rfl rfl rfl) ?_
        refine wl (ro_assign rfl) ?_
        refine wl_nil (x_then (hK9 _ _ ?_))
        clear hK9 K9
        refine wc_condF rfl ?_
        refine c_seq (fun K10 hK10 => ?_)
        refine c_reg ?_ -- region 14 syn.go:171
        refine wl (ro_cmp rfl rfl rfl) ?_
        refine wl (ro_assign rfl) ?_
        refine wl_nil (x_then (hK10 _ _ ?_))
        clear hK10 K10
        refine wc_condF rfl ?_
        refine c_seq (fun K11 hK11 => ?_)
        refine c_reg ?_ -- region 16 syn.go:173
        refine wl (ro_cmp rfl rfl rfl) ?_
        refine wl (ro_assign rfl) ?_
        refine wl_nil (x_then (hK11 _ _ ?_))
        clear hK11 K11
        refine wc_condF rfl ?_
        refine c_seq (fun K12 hK12 => ?_)
        refine c_reg ?_ -- region 18 syn.go:175
        refine wl (ro_cmp rfl rfl rfl) ?_
        refine wl (ro_assign rfl) ?_
        refine wl_nil (x_then (hK12 _ _ ?_))
        clear hK12 K12
        refine wc_condF rfl ?_
        refine c_seq (fun K13 hK13 => ?_)
        refine c_reg ?_ -- region 22 syn.go:180
        refine wl (ro_cmp rfl rfl rfl) ?_
        refine wl (ro_assign rfl) ?_
        refine wl_nil (x_then (hK13 _ _ ?_))
        clear hK13 K13
        refine wc_condF rfl ?_
        refine c_seq (fun K14 hK14 => ?_)
        refine c_reg ?_ -- region 27 syn.go:185
        refine wl (ro_cmp rfl rfl rfl) ?_
        refine wl (ro_assign rfl) ?_
        refine wl_nil (x_then (hK14 _ _ ?_))
        clear hK14 K14
        refine wc_condF rfl ?_
        refine c_seq (fun K15 hK15 => ?_)
        refine c_reg ?_ -- region 30 syn.go:188
        refine wl (ro_cmp rfl rfl rfl) ?_
        refine wl (ro_assign rfl) ?_
        refine wl_nil (x_then (hK15 _ _ ?_))
        clear hK15 K15
        refine wc_condT rfl ?_
        refine c_seq (fun K16 hK16 => ?_)
        refine c_reg ?_ -- region 31 syn.go:189
        refine wl (ro_move rfl) ?_
        refine wl (ro_nilCheck rfl) ?_
        refine wl (ro_fieldAddr (k := 1) rfl fo_96_1) ?_
        refine wl (ro_loadB rfl sc_3 (hB) (cel_get' (by omega) V1.i1)) ?_
        refine wl (ro_arith rfl rfl rfl (Go.IntWalk.i64_in _ (by omega))) ?_
        refine wl (ro_nilCheck rfl) ?_
        refine wl (ro_fieldAddr (k := 1) rfl fo_96_1) ?_
        refine wl_put rfl rfl rfl sz_3 hB ((cel_lt (by omega))) ((cel_put 1 (by omega))) (fun w1 hB F1 => ?_)
        replace hF := hF.thenDrew.thenO F1 (by first | exact .inr (by omega) | exact .inl rfl | exact .inl (by assumption))
        have V3 : PV (pt f1 1 (i64c (σ1.i + 1))) p { σ1 with i := σ1.i + 1 } T1 := V1.setI (i := σ1.i + 1) (by omega)
        refine wl_nil (x_then (hK16 _ _ ?_))
        clear hK16 K16
        refine c_reg ?_ -- region 32 syn.go:190
        refine wl (ro_move rfl) ?_
        refine wl (ro_build rfl bld_87) ?_
        rw [zeroS]
        refine wl_call rfl en_127 (leaf127 (k := 3) (r := RE.fin) (Z := 0) hB V3 rfl) ?_
        rintro _ w5 ⟨rfl, hP5, F5⟩
        refine wl_nil (x_blk ?_)
        refine bp_end Tryz.results94 rfl ?_
        exact ⟨rfl, by rw [show actR p σ1 36 = leafX { σ1 with i := σ1.i + 1 } .fin from leafR_set (p := p) (b := 36) rfl]; exact hP5.weak, hF.trans F5⟩
      have hX : actR p σ1 b = leafX { σ1 with i := σ1.i + 1 } (.set (rng b.toNat b.toNat)) := by
        unfold actR
        rw [if_neg h124, if_neg h41, if_neg h40]
        apply leafR_set
        unfold leafA
        rw [if_neg h91, if_neg h92, if_neg h46, if_neg h94, if_neg h36]
      refine ret_of Tryz.func94 rfl Tryz.ntmps94 rfl ?_
      refine c_seq (fun K1 hK1 => ?_)
      refine c_pi [(0, false), (1, false), (2, false), (3, false), (4, false), (5, false), (6, false), (7, false), (8, false), (9, false)] (SameH _) mixed (by kernel_rfl) rfl (by kernel_rfl) (po_then (po_bp)) (sameH_now _ _) ?_ -- region 0 syn.go:156
      refine pi_ro rfl (fun w hS => ro_move rfl) ?_
      refine pi_ro rfl (fun w hS => ro_nilCheck rfl) ?_
      refine pi_ro rfl (fun w hS => ro_fieldAddr (k := 0) rfl fo_96_0) ?_
      refine pi_ro rfl (fun w hS => ro_loadB rfl sc_9 (Blk.of_heap hB hS) (cel_get' (by omega) V.p0)) ?_
      refine pi_ro rfl (fun w hS => ro_move rfl) ?_
      refine pi_ro rfl (fun w hS => ro_nilCheck rfl) ?_
      refine pi_ro rfl (fun w hS => ro_fieldAddr (k := 1) rfl fo_96_1) ?_
      refine pi_ro rfl (fun w hS => ro_loadB rfl sc_3 (Blk.of_heap hB hS) (cel_get' (by omega) V.i1)) ?_
      refine pi_ro rfl (fun w hS => ro_indexS rfl rfl st_9 (rfl) (hb)) ?_
      refine pi_ro rfl (fun w hS => ro_assign rfl) ?_
      refine pi_nil (x_then (hK1 _ _ ?_))
      clear hK1 K1
      refine c_seq (fun K2 hK2 => ?_)
      refine c_seq (fun K3 hK3 => ?_)
      refine c_reg ?_ -- region 1 syn.go:157
      refine wl (ro_move rfl) ?_
      refine wl (ro_cmp (r := false) rfl rfl (congrArg some ((u8eq b 42).trans (decide_eq_false n42)))) ?_
      refine wl (ro_move rfl) ?_
      refine wlg_yes rfl (ro_move rfl) ?_
      refine wlg_yes rfl (ro_cmp (r := false) rfl rfl (congrArg some ((u8eq b 43).trans (decide_eq_false n43)))) ?_
      refine wl (ro_pick rfl rfl rfl) ?_
      refine wl (ro_move rfl) ?_
      refine wlg_yes rfl (ro_move rfl) ?_
      refine wlg_yes rfl (ro_cmp (r := false) rfl rfl (congrArg some ((u8eq b 63).trans (decide_eq_false n63)))) ?_
      refine wl (ro_pick rfl rfl rfl) ?_
      refine wl (ro_move rfl) ?_
      refine wlg_yes rfl (ro_move rfl) ?_
      refine wlg_yes rfl (ro_cmp (r := false) rfl rfl (congrArg some ((u8eq b 123).trans (decide_eq_false n123)))) ?_
      refine wl (ro_pick rfl rfl rfl) ?_
      refine wl_nil (x_then (hK3 _ _ ?_))
      clear hK3 K3
      refine wc_condF rfl ?_
      refine c_skip (x_then (hK2 _ _ ?_))
      clear hK2 K2
      refine forget [(0, _), (2, _)] ⟨rfl, rfl, trivial⟩ (fun e => ?_)
      refine c_seq (fun K4 hK4 => ?_)
      refine c_reg ?_ -- region 3 syn.go:161
      refine wl (ro_move rfl) ?_
      refine wl_call rfl en_95 (join95 hB V) ?_
      rintro _ w2 ⟨rfl, hP, F2⟩
      replace hF := hF.thenDrew.trans F2
      obtain ⟨f1, T1, hB, V1⟩ := hP.1 _ hj
      refine wl_nil (x_then (hK4 _ _ ?_))
      clear hK4 K4
      refine c_seq (fun K5 hK5 => ?_)
      refine c_seq (fun K6 hK6 => ?_)
      refine c_reg ?_ -- region 4 syn.go:162
      refine wl (ro_move rfl) ?_
      refine wl (ro_nilCheck rfl) ?_
      refine wl (ro_fieldAddr (k := 323) rfl fo_96_8) ?_
      refine wl (ro_loadB rfl sc_53 (hB) (cel_get' (by omega) V1.er)) ?_
      refine wl (ro_cmp rfl rfl rfl) ?_
      refine wl_nil (x_then (hK6 _ _ ?_))
      clear hK6 K6
      refine wc_condF rfl ?_
      refine c_skip (x_then (hK5 _ _ ?_))
      clear hK5 K5
      refine forget [(0, _), (2, _)] ⟨rfl, rfl, trivial⟩ (fun e => ?_)
      refine c_seq (fun K7 hK7 => ?_)
      refine c_reg ?_ -- region 5 syn.go:165
      refine wl (ro_move rfl) ?_
      refine wl_nil (x_then (hK7 _ _ ?_))
      clear hK7 K7
      refine c_block ?_
      refine forget [(0, _), (2, _), (41, _)] ⟨rfl, rfl, rfl, trivial⟩ (fun e => ?_)
      refine c_seq (fun K8 hK8 => ?_)
      refine c_reg ?_ -- region 9 syn.go:166
      refine wl (ro_cmp (r := false) rfl rfl (congrArg some ((u8eq b 124).trans (decide_eq_false h124)))) ?_
      refine wl (ro_assign rfl) ?_
      refine wl_nil (x_then (hK8 _ _ ?_))
      clear hK8 K8
      refine wc_condF rfl ?_
      refine c_seq (fun K9 hK9 => ?_)
      refine c_reg ?_ -- region 12 syn.go:169
      refine wl (ro_cmp (r := false) rfl rfl (congrArg some ((u8eq b 41).trans (decide_eq_false h41)))) ?_
      refine wl (ro_assign rfl) ?_
      refine wl_nil (x_then (hK9 _ _ ?_))
      clear hK9 K9
      refine wc_condF rfl ?_
      refine c_seq (fun K10 hK10 => ?_)
      refine c_reg ?_ -- region 14 syn.go:171
      refine wl (ro_cmp (r := false) rfl rfl (congrArg some ((u8eq b 40).trans (decide_eq_false h40)))) ?_
      refine wl (ro_assign rfl) ?_
      refine wl_nil (x_then (hK10 _ _ ?_))
      clear hK10 K10
      refine wc_condF rfl ?_
      refine c_seq (fun K11 hK11 => ?_)
      refine c_reg ?_ -- region 16 syn.go:173
      refine wl (ro_cmp (r := false) rfl rfl (congrArg some ((u8eq b 91).trans (decide_eq_false h91)))) ?_
      refine wl (ro_assign rfl) ?_
      refine wl_nil (x_then (hK11 _ _ ?_))
      clear hK11 K11
      refine wc_condF rfl ?_
      refine c_seq (fun K12 hK12 => ?_)
      refine c_reg ?_ -- region 18 syn.go:175
      refine wl (ro_cmp (r := false) rfl rfl (congrArg some ((u8eq b 92).trans (decide_eq_false h92)))) ?_
      refine wl (ro_assign rfl) ?_
      refine wl_nil (x_then (hK12 _ _ ?_))
      clear hK12 K12
      refine wc_condF rfl ?_
      refine c_seq (fun K13 hK13 => ?_)
      refine c_reg ?_ -- region 22 syn.go:180
      refine wl (ro_cmp (r := false) rfl rfl (congrArg some ((u8eq b 46).trans (decide_eq_false h46)))) ?_
      refine wl (ro_assign rfl) ?_
      refine wl_nil (x_then (hK13 _ _ ?_))
      clear hK13 K13
      refine wc_condF rfl ?_
      refine c_seq (fun K14 hK14 => ?_)
      refine c_reg ?_ -- region 27 syn.go:185
      refine wl (ro_cmp (r := false) rfl rfl (congrArg some ((u8eq b 94).trans (decide_eq_false h94)))) ?_
      refine wl (ro_assign rfl) ?_
      refine wl_nil (x_then (hK14 _ _ ?_))
      clear hK14 K14
      refine wc_condF rfl ?_
      refine c_seq (fun K15 hK15 => ?_)
      refine c_reg ?_ -- region 30 syn.go:188
      refine wl (ro_cmp (r := false) rfl rfl (congrArg some ((u8eq b 36).trans (decide_eq_false h36)))) ?_
      refine wl (ro_assign rfl) ?_
      refine wl_nil (x_then (hK15 _ _ ?_))
      clear hK15 K15
      refine wc_condF rfl ?_
      refine c_seq (fun K16 hK16 => ?_)
      refine c_reg ?_ -- region 6 syn.go:192
      refine wl (ro_move rfl) ?_
      refine wl (ro_nilCheck rfl) ?_
      refine wl (ro_fieldAddr (k := 1) rfl fo_96_1) ?_
      refine wl (ro_loadB rfl sc_3 (hB) (cel_get' (by omega) V1.i1)) ?_
      refine wl (ro_arith rfl rfl rfl (Go.IntWalk.i64_in _ (by omega))) ?_
      refine wl (ro_nilCheck rfl) ?_
      refine wl (ro_fieldAddr (k := 1) rfl fo_96_1) ?_
      refine wl_put rfl rfl rfl sz_3 hB ((cel_lt (by omega))) ((cel_put 1 (by omega))) (fun w1 hB F1 => ?_)
      replace hF := hF.thenDrew.thenO F1 (by first | exact .inr (by omega) | exact .inl rfl | exact .inl (by assumption))
      have V3 : PV (pt f1 1 (i64c (σ1.i + 1))) p { σ1 with i := σ1.i + 1 } T1 := V1.setI (i := σ1.i + 1) (by omega)
      refine wl_nil (x_then (hK16 _ _ ?_))
      clear hK16 K16
      refine forget [(0, _), (2, _)] ⟨rfl, rfl, trivial⟩ (fun e => ?_)
      refine c_seq (fun K17 hK17 => ?_)
      refine c_reg ?_ -- region 7 syn.go:193
      refine wl (ro_move rfl) ?_
      refine wl (ro_move rfl) ?_
      refine wl_call rfl en_128 (between128) ?_
      rintro _ w2 ⟨rfl, F2⟩
      replace hF := hF.thenDrew.thenN F2
      replace hB := F2.blkN hB
      refine wl_new (ze_87) (fun ab w3 hbab hA F3 => ?_)
      have hbsab := Nat.le_trans hF.size hbab
      have hnexbab : xb < ab := Nat.lt_of_lt_of_le hB.lt hbab
      replace hF := hF.thenDrew.thenN F3
      replace hB := F3.blkN hB
      refine wl_puta rfl rfl (by simp [Value.oneCell', i64c, u64c, u8c, ptr]) sz_87 (rfl) hA ((by simp)) (rfl) (fun w4 hA F4 => ?_)
      replace hF := hF.thenDrew.thenO F4 (by first | exact .inr (by omega) | exact .inl rfl | exact .inl (by assumption))
      replace hB := F4.blkO hB (by omega)
      refine wl_nil (x_then (hK17 _ _ ?_))
      clear hK17 K17
      refine c_reg ?_ -- region 8 syn.go:194
      refine wl (ro_move rfl) ?_
      refine wl (ro_loadAggB rfl ag_87 (hA) rfl rfl) ?_
      refine wl_call rfl en_127 (leaf127 (k := 1) (r := RE.set (rng b.toNat b.toNat)) (Z := rng b.toNat b.toNat) hB V3 rfl) ?_
      rintro _ w5 ⟨rfl, hP5, F5⟩
      refine wl_nil (x_blk ?_)
      refine bp_end Tryz.results94 rfl ?_
      exact ⟨rfl, by rw [hX]; exact hP5.weak, hF.trans F5⟩

end Go.Proofs.Qxb6500567aGreat
