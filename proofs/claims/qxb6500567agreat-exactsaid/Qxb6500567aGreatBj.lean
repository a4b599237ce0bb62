import Derived.Test.Qxb6500567aGreatBi
import Derived.Test.Qxb6500567aGreatFd
/- The real parser: Parse, New. -/
namespace Go.Proofs.Qxb6500567aGreat
set_option linter.unusedVariables false
set_option linter.unusedSimpArgs false

/-- The whole, with the test of the length. -/
def parseT (p : List UInt8) : Except Er (RE × Nat) := if 128 < p.length then .error (12, 0) else parseP p

/-- A tree as a value. -/
def TV (w0 w : World) (v : Value) (X : Except Er (RE × Nat)) : Prop := match X with
  | .error e => v = .agg [.slice none 0 0, icv (-1), icv 0, i64c e.1, i64c e.2].toArray
  | .ok (r, g) => ∃ (nb cap root : Nat) (T : List RE) (c : Nat → Value), v = .agg [.slice (some ⟨nb, 0, none⟩) T.length cap, i64c root, i64c g, icv 0, icv 0].toArray ∧ w0.heap.size ≤ nb ∧ FB w.heap nb (cap * 11) c 89 ∧ T.length ≤ cap ∧ T.length ≤ 24 ∧ AR T c 0 ∧ T[root]? = some r

theorem PV.init (f : Nat → Value) (p : List UInt8) (hp : p.length ≤ 128) :
    PV (pts (pt (pt (pt (pt (pt (pt (pt f 0 (S p)) 1 (i64c 0)) 290 (i64c 0)) 321 (i64c 0)) 322 (i64c 0)) 324 (i64c 0)) 323 (i64c 0)) 291 [icv (-1), icv (-1), icv (-1), icv 0, icv 0]) p rs0 [] := by
  have hl : [icv (-1), icv (-1), icv (-1), icv 0, icv 0].length = 5 := rfl
  refine ⟨?_, ?_, ?_, rfl, by simp [rs0], fun k r h => by simp at h, fun k r h => by simp at h, ?_, ?_, by simp [rs0], ?_, by simp [rs0], ?_, by simp [rs0], hp⟩
  · rw [pts_out (by simp), pt_ne (by omega), pt_ne (by omega), pt_ne (by omega), pt_ne (by omega), pt_ne (by omega), pt_ne (by omega), pt_same]
  · rw [pts_out (by simp), pt_ne (by omega), pt_ne (by omega), pt_ne (by omega), pt_ne (by omega), pt_ne (by omega), pt_same]; rfl
  · rw [pts_out (by simp), pt_ne (by omega), pt_ne (by omega), pt_ne (by omega), pt_ne (by omega), pt_same]; rfl
  · intro k F hk
    have hlt := (List.getElem?_eq_some_iff.1 hk).1
    simp [rs0] at hlt
    subst hlt
    simp [rs0] at hk
    subst hk
    exact ⟨pts_in (i := 291) (j := 0) rfl, pts_in (i := 291) (j := 1) rfl, pts_in (i := 291) (j := 2) rfl, pts_in (i := 291) (j := 3) rfl, pts_in (i := 291) (j := 4) rfl⟩
  · rw [pts_out (by simp), pt_ne (by omega), pt_ne (by omega), pt_ne (by omega), pt_same]; rfl
  · rw [pts_out (by simp), pt_ne (by omega), pt_ne (by omega), pt_same]; rfl
  · rw [pts_out (by simp), pt_same]

theorem AR.shift {T : List RE} {c c' : Nat → Value} {o o' : Nat} (h : AR T c o) (h1 : ∀ j, j < 11 * T.length → c' (o' + j) = c (o + j)) : AR T c' o' := by
  intro k x hx
  have hk := (List.getElem?_eq_some_iff.1 hx).1
  rw [cel_congr (g := fun j => c (o + 11 * k + j)) (fun j hj => by rw [Nat.add_assoc, h1 _ (by omega), Nat.add_assoc])]
  exact h k x hx

/-- Where the run stands: under way, or at an error. -/
def RST (p : List UInt8) (m : Nat) (f : Nat → Value) : Prop :=
  (∃ σ T, rrun p m σ = parseP p ∧ PV f p σ T) ∨ (∃ e, parseP p = .error e ∧ f 323 = i64c e.1 ∧ f 324 = i64c e.2)

theorem TV.er {w0 w : World} {X : Except Er (RE × Nat)} {e : Er} (h : X = .error e) : TV w0 w (.agg [.slice none 0 0, icv (-1), icv 0, i64c e.1, i64c e.2].toArray) X := by rw [h]; rfl

theorem finR_ok {σ : RS} : finR σ = match foldR σ with | .error e => .error e | .ok σ => (match σ.K with | [] => .ok (σ.F.alt.getD .emp, σ.g) | _ :: _ => .error (1, σ.F.at')) := rfl

set_option maxHeartbeats 4000000 in
theorem Parse70 {w : World} {xb : Nat} {f : Nat → Value} {p : List UInt8} (hB : FB w.heap xb 325 f 96) (hpm : p.length ≤ 9223372036854775807) :
    Ret Tryz.prog 70 [ptr xb, S p] w (fun v w' => TV w w' v (parseT p) ∧ (∃ f', FB w'.heap xb 325 f' 96) ∧ Fram (one xb) w w') := by
  have hF : Fram (one xb) w w := Fram.refl _ _
  obtain ⟨m0, hm0⟩ := rrun_parse p
  have hpe := (parse_ok (p := p)).2
  have hxw := hB.lt
  refine ret_of Tryz.func70 rfl Tryz.ntmps70 rfl ?_
  refine c_seq (fun K1 hK1 => ?_)
  refine c_reg ?_ -- region 0 syn.go:199
  refine wl_new (ze_151) (fun mb w1 hbmb hM F1 => ?_)
  have hbsmb := Nat.le_trans hF.size hbmb
  have hnexbmb : xb < mb := Nat.lt_of_lt_of_le hB.lt hbmb
  replace hF := hF.thenDrew.thenN F1
  replace hB := F1.blkN hB
  refine wl_nil (x_then (hK1 _ _ ?_))
  clear hK1 K1
  refine c_seq (fun K2 hK2 => ?_)
  refine c_seq (fun K3 hK3 => ?_)
  refine c_reg ?_ -- region 1 syn.go:200
  refine wl (ro_move rfl) ?_
  refine wl (ro_lenS rfl st_9) ?_
  refine wl (ro_cmp rfl rfl rfl) ?_
  refine wl_nil (x_then (hK3 _ _ ?_))
  clear hK3 K3
  refine wc_cond rfl (fun hc9 => ?_) (fun hc9 => ?_)
  · try simp only [decide_eq_true_eq, decide_eq_false_iff_not, Bool.not_eq_true', Bool.not_eq_false', Bool.not_eq_eq_eq_not, Bool.not_true, Bool.not_false, beq_iff_eq, bne_iff_ne, ne_eq, beq_eq_false_iff_ne, bne_eq_false_iff_eq, gt_iff_lt, ge_iff_le, Int.not_lt, Int.not_le] at hc9
    have hl : 128 < p.length := by omega
    refine c_seq (fun K4 hK4 => ?_)
    refine c_reg ?_ -- region 2 syn.go:201
    refine wl (ro_build rfl bld_151_1_3_4) ?_
    refine wl_puta rfl rfl (by simp [Value.oneCell', i64c, u64c, u8c, ptr]) sz_151 (rfl) hM ((by simp)) (rfl) (fun w2 hM F2 => ?_)
    replace hF := hF.thenDrew.thenO F2 (by first | exact .inr (by omega) | exact .inl rfl | exact .inl (by assumption))
    replace hB := F2.blkO hB (by omega)
    refine wl_nil (x_then (hK4 _ _ ?_))
    clear hK4 K4
    refine c_ret (x_thenR ?_)
    refine bq_ret (res1 Tryz.results70 (rv_c rfl ag_151 (hM) rfl)) ?_
    exact ⟨by unfold parseT; rw [if_pos hl]; rfl, ⟨_, hB⟩, hF⟩
  · try simp only [decide_eq_true_eq, decide_eq_false_iff_not, Bool.not_eq_true', Bool.not_eq_false', Bool.not_eq_eq_eq_not, Bool.not_true, Bool.not_false, beq_iff_eq, bne_iff_ne, ne_eq, beq_eq_false_iff_ne, bne_eq_false_iff_eq, gt_iff_lt, ge_iff_le, Int.not_lt, Int.not_le] at hc9
    have hl : p.length ≤ 128 := by omega
    have hPT : parseT p = parseP p := by unfold parseT; rw [if_neg (by omega)]
    refine c_skip (x_then (hK2 _ _ ?_))
    clear hK2 K2
    refine forget [(0, _), (1, _), (4, _)] ⟨rfl, rfl, rfl, trivial⟩ (fun e => ?_)
    refine c_seq (fun K5 hK5 => ?_)
    refine c_reg ?_ -- region 3 syn.go:203
    refine wl (ro_move rfl) ?_
    refine wl (ro_move rfl) ?_
    refine wl (ro_nilCheck rfl) ?_
    refine wl (ro_fieldAddr (k := 0) rfl fo_96_0) ?_
    refine wl_put rfl rfl rfl sz_9 hB ((cel_lt (by omega))) ((cel_put 0 (by omega))) (fun w3 hB F3 => ?_)
    replace hF := hF.thenDrew.thenO F3 (by first | exact .inr (by omega) | exact .inl rfl | exact .inl (by assumption))
    replace hM := F3.blkO hM (by omega)
    refine wl_nil (x_then (hK5 _ _ ?_))
    clear hK5 K5
    refine forget [(0, _), (1, _), (4, _)] ⟨rfl, rfl, rfl, trivial⟩ (fun e => ?_)
    refine c_seq (fun K6 hK6 => ?_)
    refine c_reg ?_ -- region 4 syn.go:204
    refine wl (ro_move rfl) ?_
    refine wl (ro_move rfl) ?_
    refine wl (ro_move rfl) ?_
    refine wl (ro_move rfl) ?_
    refine wl (ro_move rfl) ?_
    refine wl (ro_nilCheck rfl) ?_
    refine wl (ro_fieldAddr (k := 1) rfl fo_96_1) ?_
    refine wl_put rfl rfl rfl sz_3 hB ((cel_lt (by omega))) ((cel_put 1 (by omega))) (fun w4 hB F4 => ?_)
    replace hF := hF.thenDrew.thenO F4 (by first | exact .inr (by omega) | exact .inl rfl | exact .inl (by assumption))
    replace hM := F4.blkO hM (by omega)
    refine wl (ro_nilCheck rfl) ?_
    refine wl (ro_fieldAddr (k := 290) rfl fo_96_4) ?_
    refine wl_put rfl rfl rfl sz_3 hB ((cel_lt (by omega))) ((cel_put 290 (by omega))) (fun w5 hB F5 => ?_)
    replace hF := hF.thenDrew.thenO F5 (by first | exact .inr (by omega) | exact .inl rfl | exact .inl (by assumption))
    replace hM := F5.blkO hM (by omega)
    refine wl (ro_nilCheck rfl) ?_
    refine wl (ro_fieldAddr (k := 321) rfl fo_96_6) ?_
    refine wl_put rfl rfl rfl sz_3 hB ((cel_lt (by omega))) ((cel_put 321 (by omega))) (fun w6 hB F6 => ?_)
    replace hF := hF.thenDrew.thenO F6 (by first | exact .inr (by omega) | exact .inl rfl | exact .inl (by assumption))
    replace hM := F6.blkO hM (by omega)
    refine wl (ro_nilCheck rfl) ?_
    refine wl (ro_fieldAddr (k := 322) rfl fo_96_7) ?_
    refine wl_put rfl rfl rfl sz_3 hB ((cel_lt (by omega))) ((cel_put 322 (by omega))) (fun w7 hB F7 => ?_)
    replace hF := hF.thenDrew.thenO F7 (by first | exact .inr (by omega) | exact .inl rfl | exact .inl (by assumption))
    replace hM := F7.blkO hM (by omega)
    refine wl (ro_nilCheck rfl) ?_
    refine wl (ro_fieldAddr (k := 324) rfl fo_96_9) ?_
    refine wl_put rfl rfl rfl sz_3 hB ((cel_lt (by omega))) ((cel_put 324 (by omega))) (fun w8 hB F8 => ?_)
    replace hF := hF.thenDrew.thenO F8 (by first | exact .inr (by omega) | exact .inl rfl | exact .inl (by assumption))
    replace hM := F8.blkO hM (by omega)
    refine wl_nil (x_then (hK6 _ _ ?_))
    clear hK6 K6
    refine forget [(0, _), (1, _), (4, _)] ⟨rfl, rfl, rfl, trivial⟩ (fun e => ?_)
    refine c_seq (fun K7 hK7 => ?_)
    refine c_reg ?_ -- region 5 syn.go:205
    refine wl (ro_move rfl) ?_
    refine wl (ro_nilCheck rfl) ?_
    refine wl (ro_fieldAddr (k := 323) rfl fo_96_8) ?_
    refine wl_put rfl rfl rfl sz_53 hB ((cel_lt (by omega))) ((cel_put 323 (by omega))) (fun w9 hB F9 => ?_)
    replace hF := hF.thenDrew.thenO F9 (by first | exact .inr (by omega) | exact .inl rfl | exact .inl (by assumption))
    replace hM := F9.blkO hM (by omega)
    refine wl_nil (x_then (hK7 _ _ ?_))
    clear hK7 K7
    refine forget [(0, _), (1, _), (4, _)] ⟨rfl, rfl, rfl, trivial⟩ (fun e => ?_)
    refine c_seq (fun K8 hK8 => ?_)
    refine c_reg ?_ -- region 6 syn.go:206
    refine wl (ro_move rfl) ?_
    refine wl (ro_build rfl bld_93_0_1_2) ?_
    refine wl (ro_nilCheck rfl) ?_
    refine wl (ro_fieldAddr (k := 291) rfl fo_96_5) ?_
    refine wl (ro_indexAddrA (et := 93) (k := 5) rfl rfl ar_94 ((show _ = ((0 : Nat) : Int) from rfl)) ((by omega : 0 < 6))) ?_
    refine wl_puta rfl rfl (by simp [Value.oneCell', i64c, u64c, u8c, ptr]) sz_93 (rfl) hB ((by rw [cel_len]; omega)) ((cel_puts 291 (by omega) rfl (by omega))) (fun w10 hB F10 => ?_)
    replace hF := hF.thenDrew.thenO F10 (by first | exact .inr (by omega) | exact .inl rfl | exact .inl (by assumption))
    replace hM := F10.blkO hM (by omega)
    have V0 := PV.init f p hl
    refine wl_nil (x_then (hK8 _ _ ?_))
    clear hK8 K8
    refine forget [(0, _), (1, _), (4, _)] ⟨rfl, rfl, rfl, trivial⟩ (fun e => ?_)
    refine c_seq (fun K9 hK9 => ?_)
    refine c_block ?_
    -- loop@r7: live slots [0, 1, 4]
    refine c_loopG (fun m a' w' => ∃ f1, RST p m f1 ∧ FB w'.heap xb 325 f1 96 ∧ Blk w'.heap mb [.slice none 0 0, icv 0, icv 0, icv 0, icv 0] 151 ∧ Fram (one xb) w w' ∧ ∃ e, a' = Fr 143 (upds e [(0, ptr xb), (1, S p), (4, ptr mb)]) []) m0 ⟨_, .inl ⟨_, _, hm0, V0⟩, hB, hM, hF, kp _ ⟨rfl, rfl, rfl, trivial⟩⟩ ?_
    clear hB hM hF V0 hm0
    rintro m a' w3 ⟨f3, hst, hB, hM, hF, e, rfl⟩
    have hcase : (∃ σ T b k, m = k + 1 ∧ p[σ.i]? = some b ∧ rrun p (k + 1) σ = parseP p ∧ PV f3 p σ T) ∨ (∃ σ T k, p[σ.i]? = none ∧ rrun p (k + 1) σ = parseP p ∧ PV f3 p σ T) ∨ (∃ e, parseP p = .error e ∧ f3 323 = i64c e.1 ∧ f3 324 = i64c e.2) := by
      rcases hst with ⟨σ, T, hr, V⟩ | h
      · cases m with
        | zero => exact absurd rfl (hpe (0, 0) hr.symm)
        | succ k =>
          cases hb : p[σ.i]? with
          | none => exact .inr (.inl ⟨σ, T, k, hb, hr, V⟩)
          | some b => exact .inl ⟨σ, T, b, k, rfl, hb, hr, V⟩
      · exact .inr (.inr h)
    clear hst
    refine c_seq (fun K10 hK10 => ?_)
    refine c_seq (fun K11 hK11 => ?_)
    rcases hcase with ⟨σ, T, b, k, rfl, hb, hr, V⟩ | ⟨σ, T, k, hnone, hr, V⟩ | ⟨ee, hPE, hE1, hE2⟩
    · skip
      have hlt := get_lt hb
      unfold rrun at hr
      rw [hb] at hr
      simp only at hr
      refine c_reg ?_ -- region 7 syn.go:207
      refine wl (ro_move rfl) ?_
      refine wl (ro_nilCheck rfl) ?_
      refine wl (ro_fieldAddr (k := 323) rfl fo_96_8) ?_
      refine wl (ro_loadB rfl sc_53 (hB) (cel_get' (by omega) V.er)) ?_
      refine wl (ro_cmp (r := true) rfl rfl rfl) ?_
      refine wl (ro_move rfl) ?_
      refine wlg_yes rfl (ro_move rfl) ?_
      refine wlg_yes rfl (ro_nilCheck rfl) ?_
      refine wlg_yes rfl (ro_fieldAddr (k := 1) rfl fo_96_1) ?_
      refine wlg_yes rfl (ro_loadB rfl sc_3 (hB) (cel_get' (by omega) V.i1)) ?_
      refine wlg_yes rfl (ro_move rfl) ?_
      refine wlg_yes rfl (ro_lenS rfl st_9) ?_
      refine wlg_yes rfl (ro_cmp (r := true) rfl rfl (congrArg some (decide_eq_true (by omega)))) ?_
      refine wl (ro_pick rfl rfl rfl) ?_
      refine wl_nil (x_then (hK11 _ _ ?_))
      clear hK11 K11
      refine wc_condT rfl ?_
      refine c_skip (x_then (hK10 _ _ ?_))
      clear hK10 K10
      refine c_block ?_
      refine c_reg ?_ -- region 8 syn.go:208
      refine wl (ro_move rfl) ?_
      refine wl_call rfl en_94 (step94 hB V hb) ?_
      rintro _ w4 ⟨rfl, hP, F4⟩
      replace hF := hF.thenDrew.trans F4
      replace hM := F4.blkO hM (by omega)
      refine wl_nil (x_blk (x_then ?_))
      cases hs : stepR p σ b with
      | error e =>
        rw [hs] at hr
        obtain ⟨f4, hB, h1, h2⟩ := hP.2 _ hs
        exact ⟨k, by omega, f4, .inr ⟨e, hr.symm, h1, h2⟩, hB, hM, hF, kp _ ⟨rfl, rfl, rfl, trivial⟩⟩
      | ok σ' =>
        rw [hs] at hr
        obtain ⟨f4, T4, hB, V4⟩ := hP.1 _ hs
        exact ⟨k, by omega, f4, .inl ⟨σ', T4, hr, V4⟩, hB, hM, hF, kp _ ⟨rfl, rfl, rfl, trivial⟩⟩
    · skip
      have hge : p.length ≤ σ.i := List.getElem?_eq_none_iff.1 hnone
      unfold rrun at hr
      rw [hnone] at hr
      simp only at hr
      refine c_reg ?_ -- region 7 syn.go:207
      refine wl (ro_move rfl) ?_
      refine wl (ro_nilCheck rfl) ?_
      refine wl (ro_fieldAddr (k := 323) rfl fo_96_8) ?_
      refine wl (ro_loadB rfl sc_53 (hB) (cel_get' (by omega) V.er)) ?_
      refine wl (ro_cmp (r := true) rfl rfl rfl) ?_
      refine wl (ro_move rfl) ?_
      refine wlg_yes rfl (ro_move rfl) ?_
      refine wlg_yes rfl (ro_nilCheck rfl) ?_
      refine wlg_yes rfl (ro_fieldAddr (k := 1) rfl fo_96_1) ?_
      refine wlg_yes rfl (ro_loadB rfl sc_3 (hB) (cel_get' (by omega) V.i1)) ?_
      refine wlg_yes rfl (ro_move rfl) ?_
      refine wlg_yes rfl (ro_lenS rfl st_9) ?_
      refine wlg_yes rfl (ro_cmp (r := false) rfl rfl (congrArg some (decide_eq_false (by omega)))) ?_
      refine wl (ro_pick rfl rfl rfl) ?_
      refine wl_nil (x_then (hK11 _ _ ?_))
      clear hK11 K11
      refine wc_condF rfl ?_
      refine c_exit (x_thenX (x_thenX (x_blkX (x_then (hK9 _ _ ?_)))))
      clear hK10 K10 hK9 K9
      refine c_seq (fun K12 hK12 => ?_)
      refine c_seq (fun K13 hK13 => ?_)
      rcases hj : joinR σ with e1 | σ1
      rotate_left
      rcases hf : foldR σ1 with e2 | σ2
      rotate_left
      rcases σ2 with ⟨i2, n2, g2, F2, K2⟩
      rcases K2 with _ | ⟨G, K2⟩
      rotate_left
      · skip
        rw [hj] at hr
        simp only [finR, hf] at hr
        have hne := hpe (1, F2.at') hr.symm
        refine c_reg ?_ -- region 9 syn.go:210
        refine wl (ro_move rfl) ?_
        refine wl (ro_nilCheck rfl) ?_
        refine wl (ro_fieldAddr (k := 323) rfl fo_96_8) ?_
        refine wl (ro_loadB rfl sc_53 (hB) (cel_get' (by omega) V.er)) ?_
        refine wl (ro_cmp (r := true) rfl rfl rfl) ?_
        refine wl_nil (x_then (hK13 _ _ ?_))
        clear hK13 K13
        refine wc_condT rfl ?_
        refine c_reg ?_ -- region 10 syn.go:211
        refine wl (ro_move rfl) ?_
        refine wl_call rfl en_95 (join95 hB V) ?_
        rintro _ w5 ⟨rfl, hP, F5⟩
        replace hF := hF.thenDrew.trans F5
        replace hM := F5.blkO hM (by omega)
        obtain ⟨f5, T5, hB, V5⟩ := hP.1 _ hj
        refine wl_nil (x_then (hK12 _ _ ?_))
        clear hK12 K12
        refine c_seq (fun K14 hK14 => ?_)
        refine c_seq (fun K15 hK15 => ?_)
        refine c_reg ?_ -- region 11 syn.go:213
        refine wl (ro_move rfl) ?_
        refine wl (ro_nilCheck rfl) ?_
        refine wl (ro_fieldAddr (k := 323) rfl fo_96_8) ?_
        refine wl (ro_loadB rfl sc_53 (hB) (cel_get' (by omega) V5.er)) ?_
        refine wl (ro_cmp (r := true) rfl rfl rfl) ?_
        refine wl_nil (x_then (hK15 _ _ ?_))
        clear hK15 K15
        refine wc_condT rfl ?_
        refine c_reg ?_ -- region 12 syn.go:214
        refine wl (ro_move rfl) ?_
        refine wl_call rfl en_96 (fold96 hB V5) ?_
        rintro _ w6 ⟨rfl, hP, F6⟩
        replace hF := hF.thenDrew.trans F6
        replace hM := F6.blkO hM (by omega)
        obtain ⟨f6, T6, hB, V6⟩ := hP.1 _ hf
        refine wl_nil (x_then (hK14 _ _ ?_))
        clear hK14 K14
        refine c_seq (fun K16 hK16 => ?_)
        refine c_seq (fun K17 hK17 => ?_)
        refine c_reg ?_ -- region 13 syn.go:216
        refine wl (ro_move rfl) ?_
        refine wl (ro_nilCheck rfl) ?_
        refine wl (ro_fieldAddr (k := 323) rfl fo_96_8) ?_
        refine wl (ro_loadB rfl sc_53 (hB) (cel_get' (by omega) V6.er)) ?_
        refine wl (ro_cmp (r := true) rfl rfl rfl) ?_
        refine wl (ro_move rfl) ?_
        refine wlg_yes rfl (ro_move rfl) ?_
        refine wlg_yes rfl (ro_nilCheck rfl) ?_
        refine wlg_yes rfl (ro_fieldAddr (k := 321) rfl fo_96_6) ?_
        refine wlg_yes rfl (ro_loadB rfl sc_3 (hB) (cel_get' (by omega) (show _ = i64c (K2.length + 1) from V6.dp))) ?_
        refine wlg_yes rfl (ro_cmp (r := true) rfl rfl (congrArg some (decide_eq_true (by omega)))) ?_
        refine wl (ro_pick rfl rfl rfl) ?_
        refine wl_nil (x_then (hK17 _ _ ?_))
        clear hK17 K17
        refine wc_condT rfl ?_
        refine c_pi [(0, false), (1, false), (2, false), (3, false), (4, false), (5, false), (6, false), (7, false), (8, false), (9, false), (10, false), (11, true)] (fun w' => ∃ f, FB w'.heap xb 325 f 96 ∧ f 321 = i64c (K2.length + 1) ∧ f (295 + 5 * (K2.length + 1)) = i64c F2.at') mixed (by kernel_rfl) rfl (by kernel_rfl) (po_then (po_bp)) (⟨f6, hB, V6.dp, V6.top.at'⟩) ?_ -- region 14 syn.go:217
        refine pi_ro rfl (fun w hS => ro_move rfl) ?_
        refine pi_ro rfl (fun w hS => ro_move rfl) ?_
        refine pi_ro rfl (fun w hS => ro_move rfl) ?_
        refine pi_ro rfl (fun w hS => ro_nilCheck rfl) ?_
        refine pi_ro rfl (fun w hS => ro_fieldAddr (k := 321) rfl fo_96_6) ?_
        refine pi_ro rfl (fun w ⟨f, hB, h1, h2⟩ => ro_loadB rfl sc_3 hB (cel_get' (by omega) h1)) ?_
        have h5 : K2.length + 1 ≤ 5 := V6.d5
        refine pi_ro rfl (fun w hS => ro_nilCheck rfl) ?_
        refine pi_ro rfl (fun w hS => ro_fieldAddr (k := 291) rfl fo_96_5) ?_
        refine pi_ro rfl (fun w hS => ro_indexAddrA (et := 93) (k := 5) rfl rfl ar_94 (rfl) ((by omega : K2.length + 1 < 6))) ?_
        refine pi_ro rfl (fun w hS => ro_fieldAddr (k := 4) rfl fo_93_4) ?_
        refine pi_ro rfl (fun w ⟨f, hB, h1, h2⟩ => ro_loadB rfl sc_3 hB (cel_at (by omega) (by omega) h2)) ?_
        refine pi_call rfl rfl en_97 (fail97 hB) ?_
        rintro _ w7 ⟨rfl, hB, F7⟩
        replace hF := hF.thenDrew.trans F7
        replace hM := F7.blkO hM (by omega)
        have hE1 : pt (pt f6 323 (i64c 1)) 324 (i64c F2.at') 323 = i64c 1 := (err97 V6).1
        have hE2 : pt (pt f6 323 (i64c 1)) 324 (i64c F2.at') 324 = i64c F2.at' := (err97 V6).2.1
        refine ⟨⟨_, hB, by rw [pt_ne (by omega), pt_ne (by omega)]; exact V6.dp, by rw [pt_ne (by omega), pt_ne (by omega)]; exact V6.top.at'⟩, ?_⟩
        refine pi_nil (x_then (hK16 _ _ ?_))
        clear hK16 K16
        refine forget [(0, _), (4, _)] ⟨rfl, rfl, trivial⟩ (fun e => ?_)
        refine c_seq (fun K18 hK18 => ?_)
        refine c_reg ?_ -- region 15 syn.go:219
        refine wl (ro_move rfl) ?_
        refine wl (ro_nilCheck rfl) ?_
        refine wl (ro_fieldAddr (k := 0) rfl fo_96_0) ?_
        refine wl_put rfl rfl rfl sz_9 hB ((cel_lt (by omega))) ((cel_put 0 (by omega))) (fun w11 hB F11 => ?_)
        replace hF := hF.thenDrew.thenO F11 (by first | exact .inr (by omega) | exact .inl rfl | exact .inl (by assumption))
        replace hM := F11.blkO hM (by omega)
        refine wl_nil (x_then (hK18 _ _ ?_))
        clear hK18 K18
        refine c_seq (fun K19 hK19 => ?_)
        refine c_seq (fun K20 hK20 => ?_)
        refine c_reg ?_ -- region 16 syn.go:220
        refine wl (ro_move rfl) ?_
        refine wl (ro_nilCheck rfl) ?_
        refine wl (ro_fieldAddr (k := 323) rfl fo_96_8) ?_
        refine wl (ro_loadB rfl sc_53 (hB) (cel_get' (by omega) (Eq.trans (pt_ne (by omega)) hE1))) ?_
        refine wl (ro_cmp (r := true) rfl rfl rfl) ?_
        refine wl_nil (x_then (hK20 _ _ ?_))
        clear hK20 K20
        refine wc_condT rfl ?_
        refine c_seq (fun K21 hK21 => ?_)
        refine c_piL 9 [(0, false), (1, false), (2, false), (3, false), (4, false), (5, false), (6, false), (7, false), (8, false)] (SameH _) mixed (by kernel_rfl) rfl (by kernel_rfl) (po_then (po_then (po_bp))) (sameH_now _ _) ?_ -- region 17 syn.go:221
        refine ql_ro rfl (fun w hS => ro_move rfl) ?_
        refine ql_ro rfl (fun w hS => ro_nilCheck rfl) ?_
        refine ql_ro rfl (fun w hS => ro_fieldAddr (k := 323) rfl fo_96_8) ?_
        refine ql_ro rfl (fun w hS => ro_loadB rfl sc_53 (Blk.of_heap hB hS) (cel_get' (by omega) (Eq.trans (pt_ne (by omega)) hE1))) ?_
        refine ql_ro rfl (fun w hS => ro_move rfl) ?_
        refine ql_ro rfl (fun w hS => ro_nilCheck rfl) ?_
        refine ql_ro rfl (fun w hS => ro_fieldAddr (k := 324) rfl fo_96_9) ?_
        refine ql_ro rfl (fun w hS => ro_loadB rfl sc_3 (Blk.of_heap hB hS) (cel_get' (by omega) (Eq.trans (pt_ne (by omega)) hE2))) ?_
        refine ql_ro rfl (fun w hS => ro_build rfl bld_151_1_3_4) ?_
        refine ql_puta rfl rfl rfl (by simp [Value.oneCell', i64c, u64c, u8c, ptr]) sz_151 (rfl) hM ((by simp)) (rfl) (fun w12 hM F12 => ?_)
        replace hF := hF.thenDrew.thenO F12 (by first | exact .inr (by omega) | exact .inl rfl | exact .inl (by assumption))
        replace hB := F12.blkO hB (by omega)
        refine x_then (hK21 _ _ ?_)
        clear hK21 K21
        refine c_ret (x_thenR ?_)
        refine bq_ret (res1 Tryz.results70 (rv_c rfl ag_151 (hM) rfl)) ?_
        exact ⟨TV.er (e := (1, F2.at')) (X := parseT p) (by rw [hPT]; exact hr.symm), ⟨_, hB⟩, hF⟩
      · skip
        rw [hj] at hr
        simp only at hr
        have hne := hpe e1 hr.symm
        refine c_reg ?_ -- region 9 syn.go:210
        refine wl (ro_move rfl) ?_
        refine wl (ro_nilCheck rfl) ?_
        refine wl (ro_fieldAddr (k := 323) rfl fo_96_8) ?_
        refine wl (ro_loadB rfl sc_53 (hB) (cel_get' (by omega) V.er)) ?_
        refine wl (ro_cmp (r := true) rfl rfl rfl) ?_
        refine wl_nil (x_then (hK13 _ _ ?_))
        clear hK13 K13
        refine wc_condT rfl ?_
        refine c_reg ?_ -- region 10 syn.go:211
        refine wl (ro_move rfl) ?_
        refine wl_call rfl en_95 (join95 hB V) ?_
        rintro _ w5 ⟨rfl, hP, F5⟩
        replace hF := hF.thenDrew.trans F5
        replace hM := F5.blkO hM (by omega)
        obtain ⟨f5, hB, E5⟩ := hP.2 _ hj
        have hE1 := E5.1
        have hE2 := E5.2.1
        refine wl_nil (x_then (hK12 _ _ ?_))
        clear hK12 K12
        refine c_seq (fun K22 hK22 => ?_)
        refine c_seq (fun K23 hK23 => ?_)
        refine c_reg ?_ -- region 11 syn.go:213
        refine wl (ro_move rfl) ?_
        refine wl (ro_nilCheck rfl) ?_
        refine wl (ro_fieldAddr (k := 323) rfl fo_96_8) ?_
        refine wl (ro_loadB rfl sc_53 (hB) (cel_get' (by omega) hE1)) ?_
        refine wl (ro_cmp (r := false) rfl rfl (congrArg some ((beqc e1.1 0).trans (decide_eq_false hne)))) ?_
        refine wl_nil (x_then (hK23 _ _ ?_))
        clear hK23 K23
        refine wc_condF rfl ?_
        refine c_skip (x_then (hK22 _ _ ?_))
        clear hK22 K22
        refine c_seq (fun K24 hK24 => ?_)
        refine c_seq (fun K25 hK25 => ?_)
        refine c_reg ?_ -- region 13 syn.go:216
        refine wl (ro_move rfl) ?_
        refine wl (ro_nilCheck rfl) ?_
        refine wl (ro_fieldAddr (k := 323) rfl fo_96_8) ?_
        refine wl (ro_loadB rfl sc_53 (hB) (cel_get' (by omega) hE1)) ?_
        refine wl (ro_cmp (r := false) rfl rfl (congrArg some ((beqc e1.1 0).trans (decide_eq_false hne)))) ?_
        refine wl (ro_move rfl) ?_
        refine wlg_no rfl ?_
        refine wlg_no rfl ?_
        refine wlg_no rfl ?_
        refine wlg_no rfl ?_
        refine wlg_no rfl ?_
        refine wl (ro_pick rfl rfl rfl) ?_
        refine wl_nil (x_then (hK25 _ _ ?_))
        clear hK25 K25
        refine wc_condF rfl ?_
        refine c_skip (x_then (hK24 _ _ ?_))
        clear hK24 K24
        refine forget [(0, _), (4, _)] ⟨rfl, rfl, trivial⟩ (fun e => ?_)
        refine c_seq (fun K26 hK26 => ?_)
        refine c_reg ?_ -- region 15 syn.go:219
        refine wl (ro_move rfl) ?_
        refine wl (ro_nilCheck rfl) ?_
        refine wl (ro_fieldAddr (k := 0) rfl fo_96_0) ?_
        refine wl_put rfl rfl rfl sz_9 hB ((cel_lt (by omega))) ((cel_put 0 (by omega))) (fun w13 hB F13 => ?_)
        replace hF := hF.thenDrew.thenO F13 (by first | exact .inr (by omega) | exact .inl rfl | exact .inl (by assumption))
        replace hM := F13.blkO hM (by omega)
        refine wl_nil (x_then (hK26 _ _ ?_))
        clear hK26 K26
        refine c_seq (fun K27 hK27 => ?_)
        refine c_seq (fun K28 hK28 => ?_)
        refine c_reg ?_ -- region 16 syn.go:220
        refine wl (ro_move rfl) ?_
        refine wl (ro_nilCheck rfl) ?_
        refine wl (ro_fieldAddr (k := 323) rfl fo_96_8) ?_
        refine wl (ro_loadB rfl sc_53 (hB) (cel_get' (by omega) (Eq.trans (pt_ne (by omega)) hE1))) ?_
        refine wl (ro_cmp (r := true) rfl rfl (congrArg some ((bnec e1.1 0).trans (decide_eq_true hne)))) ?_
        refine wl_nil (x_then (hK28 _ _ ?_))
        clear hK28 K28
        refine wc_condT rfl ?_
        refine c_seq (fun K29 hK29 => ?_)
        refine c_piL 9 [(0, false), (1, false), (2, false), (3, false), (4, false), (5, false), (6, false), (7, false), (8, false)] (SameH _) mixed (by kernel_rfl) rfl (by kernel_rfl) (po_then (po_then (po_bp))) (sameH_now _ _) ?_ -- region 17 syn.go:221
        refine ql_ro rfl (fun w hS => ro_move rfl) ?_
        refine ql_ro rfl (fun w hS => ro_nilCheck rfl) ?_
        refine ql_ro rfl (fun w hS => ro_fieldAddr (k := 323) rfl fo_96_8) ?_
        refine ql_ro rfl (fun w hS => ro_loadB rfl sc_53 (Blk.of_heap hB hS) (cel_get' (by omega) (Eq.trans (pt_ne (by omega)) hE1))) ?_
        refine ql_ro rfl (fun w hS => ro_move rfl) ?_
        refine ql_ro rfl (fun w hS => ro_nilCheck rfl) ?_
        refine ql_ro rfl (fun w hS => ro_fieldAddr (k := 324) rfl fo_96_9) ?_
        refine ql_ro rfl (fun w hS => ro_loadB rfl sc_3 (Blk.of_heap hB hS) (cel_get' (by omega) (Eq.trans (pt_ne (by omega)) hE2))) ?_
        refine ql_ro rfl (fun w hS => ro_build rfl bld_151_1_3_4) ?_
        refine ql_puta rfl rfl rfl (by simp [Value.oneCell', i64c, u64c, u8c, ptr]) sz_151 (rfl) hM ((by simp)) (rfl) (fun w14 hM F14 => ?_)
        replace hF := hF.thenDrew.thenO F14 (by first | exact .inr (by omega) | exact .inl rfl | exact .inl (by assumption))
        replace hB := F14.blkO hB (by omega)
        refine x_then (hK29 _ _ ?_)
        clear hK29 K29
        refine c_ret (x_thenR ?_)
        refine bq_ret (res1 Tryz.results70 (rv_c rfl ag_151 (hM) rfl)) ?_
        exact ⟨TV.er (e := e1) (X := parseT p) (by rw [hPT]; exact hr.symm), ⟨_, hB⟩, hF⟩
      · skip
        rw [hj] at hr
        simp only [finR, hf] at hr
        have hne := hpe e2 hr.symm
        refine c_reg ?_ -- region 9 syn.go:210
        refine wl (ro_move rfl) ?_
        refine wl (ro_nilCheck rfl) ?_
        refine wl (ro_fieldAddr (k := 323) rfl fo_96_8) ?_
        refine wl (ro_loadB rfl sc_53 (hB) (cel_get' (by omega) V.er)) ?_
        refine wl (ro_cmp (r := true) rfl rfl rfl) ?_
        refine wl_nil (x_then (hK13 _ _ ?_))
        clear hK13 K13
        refine wc_condT rfl ?_
        refine c_reg ?_ -- region 10 syn.go:211
        refine wl (ro_move rfl) ?_
        refine wl_call rfl en_95 (join95 hB V) ?_
        rintro _ w5 ⟨rfl, hP, F5⟩
        replace hF := hF.thenDrew.trans F5
        replace hM := F5.blkO hM (by omega)
        obtain ⟨f5, T5, hB, V5⟩ := hP.1 _ hj
        refine wl_nil (x_then (hK12 _ _ ?_))
        clear hK12 K12
        refine c_seq (fun K30 hK30 => ?_)
        refine c_seq (fun K31 hK31 => ?_)
        refine c_reg ?_ -- region 11 syn.go:213
        refine wl (ro_move rfl) ?_
        refine wl (ro_nilCheck rfl) ?_
        refine wl (ro_fieldAddr (k := 323) rfl fo_96_8) ?_
        refine wl (ro_loadB rfl sc_53 (hB) (cel_get' (by omega) V5.er)) ?_
        refine wl (ro_cmp (r := true) rfl rfl rfl) ?_
        refine wl_nil (x_then (hK31 _ _ ?_))
        clear hK31 K31
        refine wc_condT rfl ?_
        refine c_reg ?_ -- region 12 syn.go:214
        refine wl (ro_move rfl) ?_
        refine wl_call rfl en_96 (fold96 hB V5) ?_
        rintro _ w6 ⟨rfl, hP, F6⟩
        replace hF := hF.thenDrew.trans F6
        replace hM := F6.blkO hM (by omega)
        obtain ⟨f6, hB, E6⟩ := hP.2 _ hf
        have hE1 := E6.1
        have hE2 := E6.2.1
        refine wl_nil (x_then (hK30 _ _ ?_))
        clear hK30 K30
        refine c_seq (fun K32 hK32 => ?_)
        refine c_seq (fun K33 hK33 => ?_)
        refine c_reg ?_ -- region 13 syn.go:216
        refine wl (ro_move rfl) ?_
        refine wl (ro_nilCheck rfl) ?_
        refine wl (ro_fieldAddr (k := 323) rfl fo_96_8) ?_
        refine wl (ro_loadB rfl sc_53 (hB) (cel_get' (by omega) hE1)) ?_
        refine wl (ro_cmp (r := false) rfl rfl (congrArg some ((beqc e2.1 0).trans (decide_eq_false hne)))) ?_
        refine wl (ro_move rfl) ?_
        refine wlg_no rfl ?_
        refine wlg_no rfl ?_
        refine wlg_no rfl ?_
        refine wlg_no rfl ?_
        refine wlg_no rfl ?_
        refine wl (ro_pick rfl rfl rfl) ?_
        refine wl_nil (x_then (hK33 _ _ ?_))
        clear hK33 K33
        refine wc_condF rfl ?_
        refine c_skip (x_then (hK32 _ _ ?_))
        clear hK32 K32
        refine forget [(0, _), (4, _)] ⟨rfl, rfl, trivial⟩ (fun e => ?_)
        refine c_seq (fun K34 hK34 => ?_)
        refine c_reg ?_ -- region 15 syn.go:219
        refine wl (ro_move rfl) ?_
        refine wl (ro_nilCheck rfl) ?_
        refine wl (ro_fieldAddr (k := 0) rfl fo_96_0) ?_
        refine wl_put rfl rfl rfl sz_9 hB ((cel_lt (by omega))) ((cel_put 0 (by omega))) (fun w15 hB F15 => ?_)
        replace hF := hF.thenDrew.thenO F15 (by first | exact .inr (by omega) | exact .inl rfl | exact .inl (by assumption))
        replace hM := F15.blkO hM (by omega)
        refine wl_nil (x_then (hK34 _ _ ?_))
        clear hK34 K34
        refine c_seq (fun K35 hK35 => ?_)
        refine c_seq (fun K36 hK36 => ?_)
        refine c_reg ?_ -- region 16 syn.go:220
        refine wl (ro_move rfl) ?_
        refine wl (ro_nilCheck rfl) ?_
        refine wl (ro_fieldAddr (k := 323) rfl fo_96_8) ?_
        refine wl (ro_loadB rfl sc_53 (hB) (cel_get' (by omega) (Eq.trans (pt_ne (by omega)) hE1))) ?_
        refine wl (ro_cmp (r := true) rfl rfl (congrArg some ((bnec e2.1 0).trans (decide_eq_true hne)))) ?_
        refine wl_nil (x_then (hK36 _ _ ?_))
        clear hK36 K36
        refine wc_condT rfl ?_
        refine c_seq (fun K37 hK37 => ?_)
        refine c_piL 9 [(0, false), (1, false), (2, false), (3, false), (4, false), (5, false), (6, false), (7, false), (8, false)] (SameH _) mixed (by kernel_rfl) rfl (by kernel_rfl) (po_then (po_then (po_bp))) (sameH_now _ _) ?_ -- region 17 syn.go:221
        refine ql_ro rfl (fun w hS => ro_move rfl) ?_
        refine ql_ro rfl (fun w hS => ro_nilCheck rfl) ?_
        refine ql_ro rfl (fun w hS => ro_fieldAddr (k := 323) rfl fo_96_8) ?_
        refine ql_ro rfl (fun w hS => ro_loadB rfl sc_53 (Blk.of_heap hB hS) (cel_get' (by omega) (Eq.trans (pt_ne (by omega)) hE1))) ?_
        refine ql_ro rfl (fun w hS => ro_move rfl) ?_
        refine ql_ro rfl (fun w hS => ro_nilCheck rfl) ?_
        refine ql_ro rfl (fun w hS => ro_fieldAddr (k := 324) rfl fo_96_9) ?_
        refine ql_ro rfl (fun w hS => ro_loadB rfl sc_3 (Blk.of_heap hB hS) (cel_get' (by omega) (Eq.trans (pt_ne (by omega)) hE2))) ?_
        refine ql_ro rfl (fun w hS => ro_build rfl bld_151_1_3_4) ?_
        refine ql_puta rfl rfl rfl (by simp [Value.oneCell', i64c, u64c, u8c, ptr]) sz_151 (rfl) hM ((by simp)) (rfl) (fun w16 hM F16 => ?_)
        replace hF := hF.thenDrew.thenO F16 (by first | exact .inr (by omega) | exact .inl rfl | exact .inl (by assumption))
        replace hB := F16.blkO hB (by omega)
        refine x_then (hK37 _ _ ?_)
        clear hK37 K37
        refine c_ret (x_thenR ?_)
        refine bq_ret (res1 Tryz.results70 (rv_c rfl ag_151 (hM) rfl)) ?_
        exact ⟨TV.er (e := e2) (X := parseT p) (by rw [hPT]; exact hr.symm), ⟨_, hB⟩, hF⟩
      · skip
        rw [hj] at hr
        simp only [finR, hf] at hr
        obtain ⟨⟨x, hx⟩, _⟩ := foldR_ok hf
        simp only at hx
        rw [hx] at hr
        simp only [Option.getD_some] at hr
        refine c_reg ?_ -- region 9 syn.go:210
        refine wl (ro_move rfl) ?_
        refine wl (ro_nilCheck rfl) ?_
        refine wl (ro_fieldAddr (k := 323) rfl fo_96_8) ?_
        refine wl (ro_loadB rfl sc_53 (hB) (cel_get' (by omega) V.er)) ?_
        refine wl (ro_cmp (r := true) rfl rfl rfl) ?_
        refine wl_nil (x_then (hK13 _ _ ?_))
        clear hK13 K13
        refine wc_condT rfl ?_
        refine c_reg ?_ -- region 10 syn.go:211
        refine wl (ro_move rfl) ?_
        refine wl_call rfl en_95 (join95 hB V) ?_
        rintro _ w5 ⟨rfl, hP, F5⟩
        replace hF := hF.thenDrew.trans F5
        replace hM := F5.blkO hM (by omega)
        obtain ⟨f5, T5, hB, V5⟩ := hP.1 _ hj
        refine wl_nil (x_then (hK12 _ _ ?_))
        clear hK12 K12
        refine c_seq (fun K38 hK38 => ?_)
        refine c_seq (fun K39 hK39 => ?_)
        refine c_reg ?_ -- region 11 syn.go:213
        refine wl (ro_move rfl) ?_
        refine wl (ro_nilCheck rfl) ?_
        refine wl (ro_fieldAddr (k := 323) rfl fo_96_8) ?_
        refine wl (ro_loadB rfl sc_53 (hB) (cel_get' (by omega) V5.er)) ?_
        refine wl (ro_cmp (r := true) rfl rfl rfl) ?_
        refine wl_nil (x_then (hK39 _ _ ?_))
        clear hK39 K39
        refine wc_condT rfl ?_
        refine c_reg ?_ -- region 12 syn.go:214
        refine wl (ro_move rfl) ?_
        refine wl_call rfl en_96 (fold96 hB V5) ?_
        rintro _ w6 ⟨rfl, hP, F6⟩
        replace hF := hF.thenDrew.trans F6
        replace hM := F6.blkO hM (by omega)
        obtain ⟨f6, T6, hB, V6⟩ := hP.1 _ hf
        refine wl_nil (x_then (hK38 _ _ ?_))
        clear hK38 K38
        refine c_seq (fun K40 hK40 => ?_)
        refine c_seq (fun K41 hK41 => ?_)
        refine c_reg ?_ -- region 13 syn.go:216
        refine wl (ro_move rfl) ?_
        refine wl (ro_nilCheck rfl) ?_
        refine wl (ro_fieldAddr (k := 323) rfl fo_96_8) ?_
        refine wl (ro_loadB rfl sc_53 (hB) (cel_get' (by omega) V6.er)) ?_
        refine wl (ro_cmp (r := true) rfl rfl rfl) ?_
        refine wl (ro_move rfl) ?_
        refine wlg_yes rfl (ro_move rfl) ?_
        refine wlg_yes rfl (ro_nilCheck rfl) ?_
        refine wlg_yes rfl (ro_fieldAddr (k := 321) rfl fo_96_6) ?_
        refine wlg_yes rfl (ro_loadB rfl sc_3 (hB) (cel_get' (by omega) (show _ = i64c 0 from V6.dp))) ?_
        refine wlg_yes rfl (ro_cmp (r := false) rfl rfl rfl) ?_
        refine wl (ro_pick rfl rfl rfl) ?_
        refine wl_nil (x_then (hK41 _ _ ?_))
        clear hK41 K41
        refine wc_condF rfl ?_
        refine c_skip (x_then (hK40 _ _ ?_))
        clear hK40 K40
        refine forget [(0, _), (4, _)] ⟨rfl, rfl, trivial⟩ (fun e => ?_)
        refine c_seq (fun K42 hK42 => ?_)
        refine c_reg ?_ -- region 15 syn.go:219
        refine wl (ro_move rfl) ?_
        refine wl (ro_nilCheck rfl) ?_
        refine wl (ro_fieldAddr (k := 0) rfl fo_96_0) ?_
        refine wl_put rfl rfl rfl sz_9 hB ((cel_lt (by omega))) ((cel_put 0 (by omega))) (fun w17 hB F17 => ?_)
        replace hF := hF.thenDrew.thenO F17 (by first | exact .inr (by omega) | exact .inl rfl | exact .inl (by assumption))
        replace hM := F17.blkO hM (by omega)
        refine wl_nil (x_then (hK42 _ _ ?_))
        clear hK42 K42
        refine c_seq (fun K43 hK43 => ?_)
        refine c_seq (fun K44 hK44 => ?_)
        refine c_reg ?_ -- region 16 syn.go:220
        refine wl (ro_move rfl) ?_
        refine wl (ro_nilCheck rfl) ?_
        refine wl (ro_fieldAddr (k := 323) rfl fo_96_8) ?_
        refine wl (ro_loadB rfl sc_53 (hB) (cel_get' (by omega) (Eq.trans (pt_ne (by omega)) V6.er))) ?_
        refine wl (ro_cmp (r := false) rfl rfl rfl) ?_
        refine wl_nil (x_then (hK44 _ _ ?_))
        clear hK44 K44
        refine wc_condF rfl ?_
        refine c_skip (x_then (hK43 _ _ ?_))
        clear hK43 K43
        refine forget [(0, _), (4, _)] ⟨rfl, rfl, trivial⟩ (fun e => ?_)
        refine c_seq (fun K45 hK45 => ?_)
        refine c_reg ?_ -- region 18 syn.go:223
        refine wl (ro_move rfl) ?_
        refine wl (ro_nilCheck rfl) ?_
        refine wl (ro_fieldAddr (k := 290) rfl fo_96_4) ?_
        refine wl (ro_loadB rfl sc_3 (hB) (cel_get' (by omega) (Eq.trans (pt_ne (by omega)) (show _ = i64c n2 from V6.n)))) ?_
        refine wl_make (len := n2) (cap := n2) rfl rfl se_98 ze_89 (by simp) (by omega) (by have := V6.n24; simp only at this; omega) rfl bb_89 (fun nb w8 hbnb hN F8 => ?_)
        have hbsnb := Nat.le_trans hF.size hbnb
        have hnexbnb : xb ≠ nb := Nat.ne_of_lt (Nat.lt_of_lt_of_le hB.lt hbnb)
        have hnembnb : mb ≠ nb := Nat.ne_of_lt (Nat.lt_of_lt_of_le hM.lt hbnb)
        replace hF := hF.thenDrew.thenN F8
        replace hB := F8.blkN hB
        replace hM := F8.blkN hM
        have hn24 : n2 ≤ 24 := V6.n24
        have hT6 : T6.length = n2 := V6.tl
        have hal : IX T6 (some x) (f6 291) := by have := V6.top.alt; simp only [hx] at this; exact this
        obtain ⟨root, hrt, hroot⟩ := hal
        have hcells : ∀ i, i < n2 → ∀ u ∈ cel 11 (fun j => pt f6 0 (S []) (0 + 2 + i * 11 + j)), u.oneCell' = true := by
          intro i hi
          rw [cel_congr (g := fun j => f6 (2 + 11 * i + j)) (fun j hj => by rw [pt_ne (by omega)]; congr 1; omega)]
          obtain ⟨r, hr'⟩ : ∃ r, T6[i]? = some r := ⟨_, List.getElem?_eq_getElem (by omega)⟩
          exact (V6.ar i r hr').cells
        have hn290 : pt f6 0 (S []) 290 = i64c n2 := Eq.trans (pt_ne (by omega)) V6.n
        refine wl (ro_assign rfl) ?_
        refine wl_nil (x_then (hK45 _ _ ?_))
        clear hK45 K45
        refine c_seq (fun K46 hK46 => ?_)
        refine c_seq (fun K47 hK47 => ?_)
        refine c_reg ?_ -- region 19 syn.go:224
        refine wl (ro_assign rfl) ?_
        refine wl_nil (x_then (hK47 _ _ ?_))
        clear hK47 K47
        refine c_block ?_
        -- loop@r20: live slots [0, 4, 5, 6]
        refine c_loopG (fun m a' w' => ∃ (i : Nat) (c : Nat → Value), m = n2 - i ∧ i ≤ n2 ∧ (∀ j, j < 11 * i → c j = f6 (2 + j)) ∧ FB w'.heap nb (n2 * 11) c 89 ∧ FB w'.heap xb 325 (pt f6 0 (S [])) 96 ∧ Blk w'.heap mb [.slice none 0 0, icv 0, icv 0, icv 0, icv 0] 151 ∧ Fram (one xb) w w' ∧ ∃ e, a' = Fr 143 (upds e [(0, ptr xb), (4, ptr mb), (5, .slice (some ⟨nb, 0, none⟩) n2 n2), (6, i64c i)]) []) n2 ⟨0, _, by omega, by omega, fun j hj => by omega, hN, hB, hM, hF, kp _ ⟨rfl, rfl, rfl, rfl, trivial⟩⟩ ?_
        clear hB hM hF hN
        rintro m a' w9 ⟨i, c, rfl, hi, hcc, hN, hB, hM, hF, e, rfl⟩
        refine c_seq (fun K48 hK48 => ?_)
        refine c_seq (fun K49 hK49 => ?_)
        refine c_reg ?_ -- region 20 syn.go:224
        refine wl (ro_move rfl) ?_
        refine wl (ro_move rfl) ?_
        refine wl (ro_nilCheck rfl) ?_
        refine wl (ro_fieldAddr (k := 290) rfl fo_96_4) ?_
        refine wl (ro_loadB rfl sc_3 (hB) (cel_get' (by omega) hn290)) ?_
        refine wl (ro_cmp rfl rfl rfl) ?_
        refine wl_nil (x_then (hK49 _ _ ?_))
        clear hK49 K49
        refine wc_cond rfl (fun hc119 => ?_) (fun hc119 => ?_)
        · try simp only [decide_eq_true_eq, decide_eq_false_iff_not, Bool.not_eq_true', Bool.not_eq_false', Bool.not_eq_eq_eq_not, Bool.not_true, Bool.not_false, beq_iff_eq, bne_iff_ne, ne_eq, beq_eq_false_iff_ne, bne_eq_false_iff_eq, gt_iff_lt, ge_iff_le, Int.not_lt, Int.not_le] at hc119
          have hin : i < n2 := by omega
          refine c_skip (x_then (hK48 _ _ ?_))
          clear hK48 K48
          refine forget [(0, _), (4, _), (5, _), (6, _)] ⟨rfl, rfl, rfl, rfl, trivial⟩ (fun e => ?_)
          refine c_seq (fun K50 hK50 => ?_)
          refine c_block ?_
          refine c_reg ?_ -- region 22 syn.go:225
          refine wl (ro_move rfl) ?_
          refine wl (ro_move rfl) ?_
          refine wl (ro_move rfl) ?_
          refine wl (ro_move rfl) ?_
          refine wl (ro_nilCheck rfl) ?_
          refine wl (ro_fieldAddr (k := 2) rfl fo_96_2) ?_
          refine wl (ro_indexAddrA (et := 89) (k := 11) rfl rfl ar_90 (rfl) ((by omega : i < 24))) ?_
          refine wl (ro_loadAggB rfl ag_89 (hB) ((cel_len (f := fun j => pt f6 0 (S []) (0 + 2 + i * 11 + j)))) ((cel_sub (by omega)))) ?_
          refine wl (ro_indexAddr (et := 89) (k := 11) rfl rfl se_98 (rfl) (hin)) ?_
          refine wl_puta rfl rfl ((hcells i hin)) sz_89 (cel_len) hN ((by rw [cel_len]; omega)) ((cel_puts (11 * i) (by omega) cel_len (by omega))) (fun w18 hN F18 => ?_)
          replace hF := hF.thenDrew.thenO F18 (by first | exact .inr (by omega) | exact .inl rfl | exact .inl (by assumption))
          replace hB := F18.blkO hB (by omega)
          replace hM := F18.blkO hM (by omega)
          refine wl_nil (x_blk (x_then (hK50 _ _ ?_)))
          clear hK50 K50
          refine c_reg ?_ -- region 21 syn.go:224
          refine wl (ro_move rfl) ?_
          refine wl (ro_arith rfl rfl rfl (Go.IntWalk.i64_in _ (by omega))) ?_
          refine wl (ro_assign rfl) ?_
          refine wl_nil (x_then ?_)
          refine ⟨n2 - (i + 1), by omega, i + 1, _, rfl, by omega, ?_, hN, hB, hM, hF, kp _ ⟨rfl, rfl, rfl, rfl, trivial⟩⟩
          intro j hj
          by_cases hji : j < 11 * i
          · rw [pts_out (by rw [cel_len]; omega)]; exact hcc j hji
          · obtain ⟨q, rfl⟩ := Nat.exists_eq_add_of_le (Nat.not_lt.1 hji)
            rw [pts_in (cel_get (by omega)), pt_ne (by omega)]
            congr 1
            omega
        · try simp only [decide_eq_true_eq, decide_eq_false_iff_not, Bool.not_eq_true', Bool.not_eq_false', Bool.not_eq_eq_eq_not, Bool.not_true, Bool.not_false, beq_iff_eq, bne_iff_ne, ne_eq, beq_eq_false_iff_ne, bne_eq_false_iff_eq, gt_iff_lt, ge_iff_le, Int.not_lt, Int.not_le] at hc119
          have hin : i = n2 := by omega
          subst hin
          refine c_exit (x_thenX (x_thenX (x_blkX (x_then (hK46 _ _ ?_)))))
          clear hK48 K48 hK46 K46
          refine forget [(0, _), (4, _), (5, _)] ⟨rfl, rfl, rfl, trivial⟩ (fun e => ?_)
          refine c_seq (fun K51 hK51 => ?_)
          refine c_piL 12 [(0, false), (1, false), (2, false), (3, false), (4, false), (5, false), (6, false), (7, false), (8, false), (9, false), (10, false), (11, false)] (SameH _) mixed (by kernel_rfl) rfl (by kernel_rfl) (po_then (po_bp)) (sameH_now _ _) ?_ -- region 23 syn.go:227
          refine ql_ro rfl (fun w hS => ro_move rfl) ?_
          refine ql_ro rfl (fun w hS => ro_move rfl) ?_
          refine ql_ro rfl (fun w hS => ro_nilCheck rfl) ?_
          refine ql_ro rfl (fun w hS => ro_fieldAddr (k := 291) rfl fo_96_5) ?_
          refine ql_ro rfl (fun w hS => ro_indexAddrA (et := 93) (k := 5) rfl rfl ar_94 ((show _ = ((0 : Nat) : Int) from rfl)) ((by omega : 0 < 6))) ?_
          refine ql_ro rfl (fun w hS => ro_fieldAddr (k := 0) rfl fo_93_0) ?_
          refine ql_ro rfl (fun w hS => ro_loadB rfl sc_3 (Blk.of_heap hB hS) (cel_get' (by omega) (Eq.trans (pt_ne (by omega)) hroot))) ?_
          refine ql_ro rfl (fun w hS => ro_move rfl) ?_
          refine ql_ro rfl (fun w hS => ro_nilCheck rfl) ?_
          refine ql_ro rfl (fun w hS => ro_fieldAddr (k := 322) rfl fo_96_7) ?_
          refine ql_ro rfl (fun w hS => ro_loadB rfl sc_3 (Blk.of_heap hB hS) (cel_get' (by omega) (Eq.trans (pt_ne (by omega)) (show _ = i64c g2 from V6.g)))) ?_
          refine ql_ro rfl (fun w hS => ro_build rfl bld_151_0_1_2) ?_
          refine ql_puta rfl rfl rfl (by simp [Value.oneCell', i64c, u64c, u8c, ptr]) sz_151 (rfl) hM ((by simp)) (rfl) (fun w19 hM F19 => ?_)
          replace hF := hF.thenDrew.thenO F19 (by first | exact .inr (by omega) | exact .inl rfl | exact .inl (by assumption))
          replace hB := F19.blkO hB (by omega)
          replace hN := F19.blkO hN (by omega)
          refine x_then (hK51 _ _ ?_)
          clear hK51 K51
          refine c_ret ?_
          refine bq_ret (res1 Tryz.results70 (rv_c rfl ag_151 (hM) rfl)) ?_
          refine ⟨?_, ⟨_, hB⟩, hF⟩
          rw [hPT, ← hr]
          exact ⟨nb, i, root, T6, c, by rw [hT6]; rfl, hbsnb, hN, by omega, by omega, V6.ar.shift (fun j hj => by rw [Nat.zero_add]; exact hcc j (by omega)), hrt⟩
    · skip
      have hne := hpe ee hPE
      refine c_reg ?_ -- region 7 syn.go:207
      refine wl (ro_move rfl) ?_
      refine wl (ro_nilCheck rfl) ?_
      refine wl (ro_fieldAddr (k := 323) rfl fo_96_8) ?_
      refine wl (ro_loadB rfl sc_53 (hB) (cel_get' (by omega) hE1)) ?_
      refine wl (ro_cmp (r := false) rfl rfl (congrArg some ((beqc ee.1 0).trans (decide_eq_false hne)))) ?_
      refine wl (ro_move rfl) ?_
      refine wlg_no rfl ?_
      refine wlg_no rfl ?_
      refine wlg_no rfl ?_
      refine wlg_no rfl ?_
      refine wlg_no rfl ?_
      refine wlg_no rfl ?_
      refine wlg_no rfl ?_
      refine wl (ro_pick rfl rfl rfl) ?_
      refine wl_nil (x_then (hK11 _ _ ?_))
      clear hK11 K11
      refine wc_condF rfl ?_
      refine c_exit (x_thenX (x_thenX (x_blkX (x_then (hK9 _ _ ?_)))))
      clear hK10 K10 hK9 K9
      refine c_seq (fun K52 hK52 => ?_)
      refine c_seq (fun K53 hK53 => ?_)
      refine id ?_
      · skip
        refine c_reg ?_ -- region 9 syn.go:210
        refine wl (ro_move rfl) ?_
        refine wl (ro_nilCheck rfl) ?_
        refine wl (ro_fieldAddr (k := 323) rfl fo_96_8) ?_
        refine wl (ro_loadB rfl sc_53 (hB) (cel_get' (by omega) hE1)) ?_
        refine wl (ro_cmp (r := false) rfl rfl (congrArg some ((beqc ee.1 0).trans (decide_eq_false hne)))) ?_
        refine wl_nil (x_then (hK53 _ _ ?_))
        clear hK53 K53
        refine wc_condF rfl ?_
        refine c_skip (x_then (hK52 _ _ ?_))
        clear hK52 K52
        refine c_seq (fun K54 hK54 => ?_)
        refine c_seq (fun K55 hK55 => ?_)
        refine c_reg ?_ -- region 11 syn.go:213
        refine wl (ro_move rfl) ?_
        refine wl (ro_nilCheck rfl) ?_
        refine wl (ro_fieldAddr (k := 323) rfl fo_96_8) ?_
        refine wl (ro_loadB rfl sc_53 (hB) (cel_get' (by omega) hE1)) ?_
        refine wl (ro_cmp (r := false) rfl rfl (congrArg some ((beqc ee.1 0).trans (decide_eq_false hne)))) ?_
        refine wl_nil (x_then (hK55 _ _ ?_))
        clear hK55 K55
        refine wc_condF rfl ?_
        refine c_skip (x_then (hK54 _ _ ?_))
        clear hK54 K54
        refine c_seq (fun K56 hK56 => ?_)
        refine c_seq (fun K57 hK57 => ?_)
        refine c_reg ?_ -- region 13 syn.go:216
        refine wl (ro_move rfl) ?_
        refine wl (ro_nilCheck rfl) ?_
        refine wl (ro_fieldAddr (k := 323) rfl fo_96_8) ?_
        refine wl (ro_loadB rfl sc_53 (hB) (cel_get' (by omega) hE1)) ?_
        refine wl (ro_cmp (r := false) rfl rfl (congrArg some ((beqc ee.1 0).trans (decide_eq_false hne)))) ?_
        refine wl (ro_move rfl) ?_
        refine wlg_no rfl ?_
        refine wlg_no rfl ?_
        refine wlg_no rfl ?_
        refine wlg_no rfl ?_
        refine wlg_no rfl ?_
        refine wl (ro_pick rfl rfl rfl) ?_
        refine wl_nil (x_then (hK57 _ _ ?_))
        clear hK57 K57
        refine wc_condF rfl ?_
        refine c_skip (x_then (hK56 _ _ ?_))
        clear hK56 K56
        refine forget [(0, _), (4, _)] ⟨rfl, rfl, trivial⟩ (fun e => ?_)
        refine c_seq (fun K58 hK58 => ?_)
        refine c_reg ?_ -- region 15 syn.go:219
        refine wl (ro_move rfl) ?_
        refine wl (ro_nilCheck rfl) ?_
        refine wl (ro_fieldAddr (k := 0) rfl fo_96_0) ?_
        refine wl_put rfl rfl rfl sz_9 hB ((cel_lt (by omega))) ((cel_put 0 (by omega))) (fun w20 hB F20 => ?_)
        replace hF := hF.thenDrew.thenO F20 (by first | exact .inr (by omega) | exact .inl rfl | exact .inl (by assumption))
        replace hM := F20.blkO hM (by omega)
        refine wl_nil (x_then (hK58 _ _ ?_))
        clear hK58 K58
        refine c_seq (fun K59 hK59 => ?_)
        refine c_seq (fun K60 hK60 => ?_)
        refine c_reg ?_ -- region 16 syn.go:220
        refine wl (ro_move rfl) ?_
        refine wl (ro_nilCheck rfl) ?_
        refine wl (ro_fieldAddr (k := 323) rfl fo_96_8) ?_
        refine wl (ro_loadB rfl sc_53 (hB) (cel_get' (by omega) (Eq.trans (pt_ne (by omega)) hE1))) ?_
        refine wl (ro_cmp (r := true) rfl rfl (congrArg some ((bnec ee.1 0).trans (decide_eq_true hne)))) ?_
        refine wl_nil (x_then (hK60 _ _ ?_))
        clear hK60 K60
        refine wc_condT rfl ?_
        refine c_seq (fun K61 hK61 => ?_)
        refine c_piL 9 [(0, false), (1, false), (2, false), (3, false), (4, false), (5, false), (6, false), (7, false), (8, false)] (SameH _) mixed (by kernel_rfl) rfl (by kernel_rfl) (po_then (po_then (po_bp))) (sameH_now _ _) ?_ -- region 17 syn.go:221
        refine ql_ro rfl (fun w hS => ro_move rfl) ?_
        refine ql_ro rfl (fun w hS => ro_nilCheck rfl) ?_
        refine ql_ro rfl (fun w hS => ro_fieldAddr (k := 323) rfl fo_96_8) ?_
        refine ql_ro rfl (fun w hS => ro_loadB rfl sc_53 (Blk.of_heap hB hS) (cel_get' (by omega) (Eq.trans (pt_ne (by omega)) hE1))) ?_
        refine ql_ro rfl (fun w hS => ro_move rfl) ?_
        refine ql_ro rfl (fun w hS => ro_nilCheck rfl) ?_
        refine ql_ro rfl (fun w hS => ro_fieldAddr (k := 324) rfl fo_96_9) ?_
        refine ql_ro rfl (fun w hS => ro_loadB rfl sc_3 (Blk.of_heap hB hS) (cel_get' (by omega) (Eq.trans (pt_ne (by omega)) hE2))) ?_
        refine ql_ro rfl (fun w hS => ro_build rfl bld_151_1_3_4) ?_
        refine ql_puta rfl rfl rfl (by simp [Value.oneCell', i64c, u64c, u8c, ptr]) sz_151 (rfl) hM ((by simp)) (rfl) (fun w21 hM F21 => ?_)
        replace hF := hF.thenDrew.thenO F21 (by first | exact .inr (by omega) | exact .inl rfl | exact .inl (by assumption))
        replace hB := F21.blkO hB (by omega)
        refine x_then (hK61 _ _ ?_)
        clear hK61 K61
        refine c_ret (x_thenR ?_)
        refine bq_ret (res1 Tryz.results70 (rv_c rfl ag_151 (hM) rfl)) ?_
        exact ⟨TV.er (e := ee) (X := parseT p) (by rw [hPT]; exact hPE), ⟨_, hB⟩, hF⟩

set_option maxRecDepth 100000 in
theorem New14 {w : World} : Ret Tryz.prog 14 [] w (fun v w' => ∃ xb f, v = ptr xb ∧ w.heap.size ≤ xb ∧ FB w'.heap xb 325 f 96 ∧ Fram none' w w') := by
  have hF : Fram none' w w := Fram.refl _ _
  refine ret_of Tryz.func14 rfl Tryz.ntmps14 rfl ?_
  refine c_seq (fun K1 hK1 => ?_)
  refine c_reg ?_ -- region 0 syn.go:32
  refine wl (ro_assign rfl) ?_
  refine wl_nil (x_then (hK1 _ _ ?_))
  clear hK1 K1
  refine forget [] trivial (fun e => ?_)
  refine c_seq (fun K2 hK2 => ?_)
  refine c_reg ?_ -- region 1 syn.go:32
  refine wl (ro_build rfl bld_96) ?_
  refine wl_box rfl rfl (fun nb w1 hbnb hN F1 => ?_)
  have hbsnb := Nat.le_trans hF.size hbnb
  replace hF := hF.thenDrew.thenN F1
  refine wl (ro_assign rfl) ?_
  refine wl_nil (x_then (hK2 _ _ ?_))
  clear hK2 K2
  refine c_ret ?_
  refine bp_ret Tryz.results14 rfl ?_
  obtain ⟨L, hL, hl⟩ : ∃ L, Blk w1.heap nb L 96 ∧ L.length = 325 := ⟨_, hN, rfl⟩
  refine ⟨nb, fun j => L.getD j undef, rfl, hbnb, ?_, hF⟩
  rw [cel_of L, hl] at hL
  exact hL

end Go.Proofs.Qxb6500567aGreat
