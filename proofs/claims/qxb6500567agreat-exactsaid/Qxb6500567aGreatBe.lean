import Derived.Test.Qxb6500567aGreatBd
/- The real parser: signs. -/
namespace Go.Proofs.Qxb6500567aGreat
set_option linter.unusedVariables false
set_option linter.unusedSimpArgs false

theorem nd_rep {T : List RE} {n ja lo : Nat} {x : RE} {hi : Option Nat} {lz : Bool} (h1 : ja < n) (h2 : T[ja]? = some x) (hc : lo ≤ 3 ∧ ∀ m, hi = some m → lo ≤ m ∧ m ≤ 3) : ND T n (.rep x lo hi lz) (ndc 6 ja (-1) lo (mxI hi) 0 lz 0) :=
  ⟨ja, h1, h2, by rw [rmn_mk, rmx_mk]; exact hc, by rw [rmn_mk, rmx_mk, rlz_mk]⟩

theorem brP_uni {xb : Nat} {p : List UInt8} {σ : RS} {T : List RE} {r : Value} {w' : World} (h : BrP xb p σ T r w') : ∃ (a b : Int) (f2 : Nat → Value) (ec : Nat), r = .tuple #[icv a, icv b] ∧ FB w'.heap xb 325 f2 96 ∧ f2 323 = i64c ec ∧
    ((ec = 0 ∧ ∃ lo hh j, brc p σ.i = some (lo, hh, j) ∧ a = ((lo : Nat) : Int) ∧ b = mxI hh ∧ PV f2 p { σ with i := j } T) ∨ (ec = 3 ∧ brc p σ.i = none ∧ ERR f2 (3, σ.i))) := by
  unfold BrP at h
  split at h
  · rename_i lo hi j hb
    obtain ⟨rfl, f', h1, h2⟩ := h
    exact ⟨lo, mxI hi, f', 0, rfl, h1, h2.er, .inl ⟨rfl, lo, hi, j, hb, rfl, rfl, h2⟩⟩
  · rename_i hb
    obtain ⟨rfl, f', h1, h2⟩ := h
    exact ⟨0, 0, f', 3, rfl, h1, h2.1, .inr ⟨rfl, hb, h2⟩⟩

theorem mxI_lt {hi : Option Nat} : mxI hi < 0 ↔ hi = none := by
  cases hi with
  | none => simp [mxI]
  | some m => simp [mxI]

set_option maxHeartbeats 2000000 in
theorem sign122 {w : World} {xb : Nat} {f : Nat → Value} {p : List UInt8} {σ : RS} {T : List RE} {b : UInt8} (hB : FB w.heap xb 325 f 96) (V : PV f p σ T) (hb : p[σ.i]? = some b) (hsg : isSign b = true) :
    Ret Tryz.prog 122 [ptr xb] w (fun v w' => v = .tuple #[] ∧ RP xb p (signR p σ b) w' ∧ Fram (one xb) w w') := by
  have hF : Fram (one xb) w w := Fram.refl _ _
  have hpl := V.pl
  have hd5 := V.d5
  have hn24 := V.n24
  have hi := get_lt hb
  have hat := V.top.atom
  unfold signR
  cases hA : σ.F.atom with
  | none =>
    rw [hA] at hat
    refine ret_of Tryz.func122 rfl Tryz.ntmps122 rfl ?_
    refine c_seq (fun K1 hK1 => ?_)
    refine c_reg ?_ -- region 0 sign.go:45
    refine wl (ro_move rfl) ?_
    refine wl (ro_nilCheck rfl) ?_
    refine wl (ro_fieldAddr (k := 1) rfl fo_96_1) ?_
    refine wl (ro_loadB rfl sc_3 (hB) (cel_get' (by omega) V.i1)) ?_
    refine wl (ro_assign rfl) ?_
    refine wl_nil (x_then (hK1 _ _ ?_))
    clear hK1 K1
    refine forget [(0, _), (2, _)] ⟨rfl, rfl, trivial⟩ (fun e => ?_)
    refine c_seq (fun K2 hK2 => ?_)
    refine c_reg ?_ -- region 1 sign.go:46
    refine wl (ro_move rfl) ?_
    refine wl (ro_nilCheck rfl) ?_
    refine wl (ro_fieldAddr (k := 321) rfl fo_96_6) ?_
    refine wl (ro_loadB rfl sc_3 (hB) (cel_get' (by omega) V.dp)) ?_
    refine wl (ro_assign rfl) ?_
    refine wl_nil (x_then (hK2 _ _ ?_))
    clear hK2 K2
    refine forget [(0, _), (2, _), (3, _)] ⟨rfl, rfl, rfl, trivial⟩ (fun e => ?_)
    refine c_seq (fun K3 hK3 => ?_)
    refine c_reg ?_ -- region 2 sign.go:47
    refine wl (ro_move rfl) ?_
    refine wl (ro_move rfl) ?_
    refine wl (ro_nilCheck rfl) ?_
    refine wl (ro_fieldAddr (k := 291) rfl fo_96_5) ?_
    refine wl (ro_indexAddrA (et := 93) (k := 5) rfl rfl ar_94 (rfl) ((by omega : σ.K.length < 6))) ?_
    refine wl (ro_fieldAddr (k := 2) rfl fo_93_2) ?_
    refine wl (ro_loadB rfl sc_3 (hB) ((cel_at (by omega) (by omega) hat))) ?_
    refine wl (ro_assign rfl) ?_
    refine wl_nil (x_then (hK3 _ _ ?_))
    clear hK3 K3
    refine c_seq (fun K4 hK4 => ?_)
    refine c_seq (fun K5 hK5 => ?_)
    refine c_reg ?_ -- region 3 sign.go:48
    refine wl (ro_move rfl) ?_
    refine wl (ro_cmp rfl rfl rfl) ?_
    refine wl_nil (x_then (hK5 _ _ ?_))
    clear hK5 K5
    refine wc_condT rfl ?_
    refine c_seq (fun K6 hK6 => ?_)
    refine c_reg ?_ -- region 4 sign.go:49
    refine wl (ro_move rfl) ?_
    refine wl (ro_move rfl) ?_
    refine wl_call rfl en_97 (fail97 hB) ?_
    rintro _ w9 ⟨rfl, hB, F9⟩
    replace hF := hF.trans F9
    refine wl_nil (x_then (hK6 _ _ ?_))
    clear hK6 K6
    refine c_ret (x_thenR ?_)
    refine bp_ret Tryz.results122 rfl ?_
    exact ⟨rfl, RP.er (e := (3, σ.i)) hB (err97 V) rfl, hF⟩
  | some x =>
    rw [hA] at hat
    obtain ⟨ja, hja, hfa⟩ := hat
    have hjn : ja < σ.n := by have h1 := (List.getElem?_eq_some_iff.1 hja).1; have h2 := V.tl; omega
    simp only
    refine ret_of Tryz.func122 rfl Tryz.ntmps122 rfl ?_
    refine c_seq (fun K1 hK1 => ?_)
    refine c_reg ?_ -- region 0 sign.go:45
    refine wl (ro_move rfl) ?_
    refine wl (ro_nilCheck rfl) ?_
    refine wl (ro_fieldAddr (k := 1) rfl fo_96_1) ?_
    refine wl (ro_loadB rfl sc_3 (hB) (cel_get' (by omega) V.i1)) ?_
    refine wl (ro_assign rfl) ?_
    refine wl_nil (x_then (hK1 _ _ ?_))
    clear hK1 K1
    refine forget [(0, _), (2, _)] ⟨rfl, rfl, trivial⟩ (fun e => ?_)
    refine c_seq (fun K2 hK2 => ?_)
    refine c_reg ?_ -- region 1 sign.go:46
    refine wl (ro_move rfl) ?_
    refine wl (ro_nilCheck rfl) ?_
    refine wl (ro_fieldAddr (k := 321) rfl fo_96_6) ?_
    refine wl (ro_loadB rfl sc_3 (hB) (cel_get' (by omega) V.dp)) ?_
    refine wl (ro_assign rfl) ?_
    refine wl_nil (x_then (hK2 _ _ ?_))
    clear hK2 K2
    refine forget [(0, _), (2, _), (3, _)] ⟨rfl, rfl, rfl, trivial⟩ (fun e => ?_)
    refine c_seq (fun K3 hK3 => ?_)
    refine c_reg ?_ -- region 2 sign.go:47
    refine wl (ro_move rfl) ?_
    refine wl (ro_move rfl) ?_
    refine wl (ro_nilCheck rfl) ?_
    refine wl (ro_fieldAddr (k := 291) rfl fo_96_5) ?_
    refine wl (ro_indexAddrA (et := 93) (k := 5) rfl rfl ar_94 (rfl) ((by omega : σ.K.length < 6))) ?_
    refine wl (ro_fieldAddr (k := 2) rfl fo_93_2) ?_
    refine wl (ro_loadB rfl sc_3 (hB) ((cel_at (by omega) (by omega) hfa))) ?_
    refine wl (ro_assign rfl) ?_
    refine wl_nil (x_then (hK3 _ _ ?_))
    clear hK3 K3
    refine c_seq (fun K4 hK4 => ?_)
    refine c_seq (fun K5 hK5 => ?_)
    refine c_reg ?_ -- region 3 sign.go:48
    refine wl (ro_move rfl) ?_
    refine wl (ro_cmp (r := false) rfl rfl (congrArg some (decide_eq_false (by omega)))) ?_
    refine wl_nil (x_then (hK5 _ _ ?_))
    clear hK5 K5
    refine wc_condF rfl ?_
    refine c_skip (x_then (hK4 _ _ ?_))
    clear hK4 K4
    refine forget [(0, _), (2, _), (3, _), (4, _)] ⟨rfl, rfl, rfl, rfl, trivial⟩ (fun e => ?_)
    refine c_seq (fun K6 hK6 => ?_)
    refine c_reg ?_ -- region 5 sign.go:52
    refine wl (ro_assign rfl) ?_
    refine wl (ro_assign rfl) ?_
    refine wl_nil (x_then (hK6 _ _ ?_))
    clear hK6 K6
    refine c_mid (fun a' w' => ∃ (lo : Nat) (hi : Option Nat) (j : Nat) (f1 : Nat → Value), sgn p σ.i b = some (lo, hi, j) ∧ FB w'.heap xb 325 f1 96 ∧ PV f1 p { σ with i := j } T ∧ Fram (one xb) w w' ∧ ∃ e, a' = Fr 121 (upds e [(0, ptr xb), (2, i64c σ.i), (3, i64c σ.K.length), (4, i64c ja), (5, i64c lo), (6, icv (mxI hi))]) []) ?_ ?_
    · skip
      refine c_seq (fun K7 hK7 => ?_)
      refine c_reg ?_ -- region 6 sign.go:53
      refine wl (ro_move rfl) ?_
      refine wl (ro_nilCheck rfl) ?_
      refine wl (ro_fieldAddr (k := 0) rfl fo_96_0) ?_
      refine wl (ro_loadB rfl sc_9 (hB) (cel_get' (by omega) V.p0)) ?_
      refine wl (ro_move rfl) ?_
      refine wl (ro_indexS rfl rfl st_9 (rfl) (hb)) ?_
      refine wl_nil (x_then (hK7 _ _ ?_))
      clear hK7 K7
      refine c_block ?_
      refine forget [(0, _), (2, _), (3, _), (4, _), (5, _), (6, _), (33, _)] ⟨rfl, rfl, rfl, rfl, rfl, rfl, rfl, trivial⟩ (fun e => ?_)
      refine c_seq (fun K8 hK8 => ?_)
      refine c_reg ?_ -- region 9 sign.go:54
      refine wl (ro_cmp (r := decide (b = 42)) rfl rfl (congrArg some (u8eq b 42))) ?_
      refine wl (ro_assign rfl) ?_
      refine wl_nil (x_then (hK8 _ _ ?_))
      clear hK8 K8
      refine wc_cond rfl (fun hc44 => ?_) (fun hc44 => ?_)
      · try simp only [decide_eq_true_eq, decide_eq_false_iff_not, Bool.not_eq_true', Bool.not_eq_false', Bool.not_eq_eq_eq_not, Bool.not_true, Bool.not_false, beq_iff_eq, bne_iff_ne, ne_eq, beq_eq_false_iff_ne, bne_eq_false_iff_eq, gt_iff_lt, ge_iff_le, Int.not_lt, Int.not_le] at hc44
        have hb42 : b = 42 := by simpa using hc44
        subst hb42
        refine c_reg ?_ -- region 10 sign.go:55
        refine wl (ro_move rfl) ?_
        refine wl (ro_move rfl) ?_
        refine wl (ro_arith rfl rfl rfl (Go.IntWalk.i64_in _ (by omega))) ?_
        refine wl (ro_nilCheck rfl) ?_
        refine wl (ro_fieldAddr (k := 1) rfl fo_96_1) ?_
        refine wl_put rfl rfl rfl sz_3 hB ((cel_lt (by omega))) ((cel_put 1 (by omega))) (fun w1 hB F1 => ?_)
        replace hF := hF.thenDrew.thenO F1 (by first | exact .inr (by omega) | exact .inl rfl | exact .inl (by assumption))
        refine wl_nil (x_blk (x_then ?_))
        exact ⟨0, none, σ.i + 1, _, rfl, hB, V.setI (i := σ.i + 1) (by omega), hF, kp _ ⟨rfl, rfl, rfl, rfl, rfl, rfl, trivial⟩⟩
      · try simp only [decide_eq_true_eq, decide_eq_false_iff_not, Bool.not_eq_true', Bool.not_eq_false', Bool.not_eq_eq_eq_not, Bool.not_true, Bool.not_false, beq_iff_eq, bne_iff_ne, ne_eq, beq_eq_false_iff_ne, bne_eq_false_iff_eq, gt_iff_lt, ge_iff_le, Int.not_lt, Int.not_le] at hc44
        have hb42 : b ≠ 42 := by simpa using hc44
        refine c_seq (fun K9 hK9 => ?_)
        refine c_reg ?_ -- region 11 sign.go:56
        refine wl (ro_cmp (r := decide (b = 43)) rfl rfl (congrArg some (u8eq b 43))) ?_
        refine wl (ro_assign rfl) ?_
        refine wl_nil (x_then (hK9 _ _ ?_))
        clear hK9 K9
        refine wc_cond rfl (fun hc51 => ?_) (fun hc51 => ?_)
        · try simp only [decide_eq_true_eq, decide_eq_false_iff_not, Bool.not_eq_true', Bool.not_eq_false', Bool.not_eq_eq_eq_not, Bool.not_true, Bool.not_false, beq_iff_eq, bne_iff_ne, ne_eq, beq_eq_false_iff_ne, bne_eq_false_iff_eq, gt_iff_lt, ge_iff_le, Int.not_lt, Int.not_le] at hc51
          have hb43 : b = 43 := by simpa using hc51
          subst hb43
          refine c_seq (fun K10 hK10 => ?_)
          refine c_reg ?_ -- region 12 sign.go:57
          refine wl (ro_assign rfl) ?_
          refine wl_nil (x_then (hK10 _ _ ?_))
          clear hK10 K10
          refine c_reg ?_ -- region 13 sign.go:58
          refine wl (ro_move rfl) ?_
          refine wl (ro_move rfl) ?_
          refine wl (ro_arith rfl rfl rfl (Go.IntWalk.i64_in _ (by omega))) ?_
          refine wl (ro_nilCheck rfl) ?_
          refine wl (ro_fieldAddr (k := 1) rfl fo_96_1) ?_
          refine wl_put rfl rfl rfl sz_3 hB ((cel_lt (by omega))) ((cel_put 1 (by omega))) (fun w2 hB F2 => ?_)
          replace hF := hF.thenDrew.thenO F2 (by first | exact .inr (by omega) | exact .inl rfl | exact .inl (by assumption))
          refine wl_nil (x_blk (x_then ?_))
          exact ⟨1, none, σ.i + 1, _, rfl, hB, V.setI (i := σ.i + 1) (by omega), hF, kp _ ⟨rfl, rfl, rfl, rfl, rfl, rfl, trivial⟩⟩
        · try simp only [decide_eq_true_eq, decide_eq_false_iff_not, Bool.not_eq_true', Bool.not_eq_false', Bool.not_eq_eq_eq_not, Bool.not_true, Bool.not_false, beq_iff_eq, bne_iff_ne, ne_eq, beq_eq_false_iff_ne, bne_eq_false_iff_eq, gt_iff_lt, ge_iff_le, Int.not_lt, Int.not_le] at hc51
          have hb43 : b ≠ 43 := by simpa using hc51
          refine c_seq (fun K11 hK11 => ?_)
          refine c_reg ?_ -- region 14 sign.go:59
          refine wl (ro_cmp (r := decide (b = 63)) rfl rfl (congrArg some (u8eq b 63))) ?_
          refine wl (ro_assign rfl) ?_
          refine wl_nil (x_then (hK11 _ _ ?_))
          clear hK11 K11
          refine wc_cond rfl (fun hc58 => ?_) (fun hc58 => ?_)
          · try simp only [decide_eq_true_eq, decide_eq_false_iff_not, Bool.not_eq_true', Bool.not_eq_false', Bool.not_eq_eq_eq_not, Bool.not_true, Bool.not_false, beq_iff_eq, bne_iff_ne, ne_eq, beq_eq_false_iff_ne, bne_eq_false_iff_eq, gt_iff_lt, ge_iff_le, Int.not_lt, Int.not_le] at hc58
            have hb63 : b = 63 := by simpa using hc58
            subst hb63
            refine c_seq (fun K12 hK12 => ?_)
            refine c_reg ?_ -- region 15 sign.go:60
            refine wl (ro_assign rfl) ?_
            refine wl_nil (x_then (hK12 _ _ ?_))
            clear hK12 K12
            refine c_reg ?_ -- region 16 sign.go:61
            refine wl (ro_move rfl) ?_
            refine wl (ro_move rfl) ?_
            refine wl (ro_arith rfl rfl rfl (Go.IntWalk.i64_in _ (by omega))) ?_
            refine wl (ro_nilCheck rfl) ?_
            refine wl (ro_fieldAddr (k := 1) rfl fo_96_1) ?_
            refine wl_put rfl rfl rfl sz_3 hB ((cel_lt (by omega))) ((cel_put 1 (by omega))) (fun w3 hB F3 => ?_)
            replace hF := hF.thenDrew.thenO F3 (by first | exact .inr (by omega) | exact .inl rfl | exact .inl (by assumption))
            refine wl_nil (x_blk (x_then ?_))
            exact ⟨0, some 1, σ.i + 1, _, rfl, hB, V.setI (i := σ.i + 1) (by omega), hF, kp _ ⟨rfl, rfl, rfl, rfl, rfl, rfl, trivial⟩⟩
          · try simp only [decide_eq_true_eq, decide_eq_false_iff_not, Bool.not_eq_true', Bool.not_eq_false', Bool.not_eq_eq_eq_not, Bool.not_true, Bool.not_false, beq_iff_eq, bne_iff_ne, ne_eq, beq_eq_false_iff_ne, bne_eq_false_iff_eq, gt_iff_lt, ge_iff_le, Int.not_lt, Int.not_le] at hc58
            have hb63 : b ≠ 63 := by simpa using hc58
            have hsb : sgn p σ.i b = brc p σ.i := by unfold sgn; rw [if_neg hb42, if_neg hb43, if_neg hb63]
            refine c_seq (fun K13 hK13 => ?_)
            refine c_reg ?_ -- region 7 sign.go:63
            refine wl (ro_move rfl) ?_
            refine wl_call rfl en_138 (braces138 hB V hi) ?_
            rintro r w2 ⟨hP, F2⟩
            replace hF := hF.trans F2
            obtain ⟨aa, bb, f2, ec, rfl, hB, hec, hP⟩ := brP_uni hP
            refine wl (ro_move rfl) ?_
            refine wl (ro_extract rfl rfl) ?_
            refine wl (ro_extract rfl rfl) ?_
            refine wl (ro_assign rfl) ?_
            refine wl (ro_assign rfl) ?_
            refine wl_nil (x_then (hK13 _ _ ?_))
            clear hK13 K13
            refine forget [(0, _), (2, _), (3, _), (4, _), (5, _), (6, _)] ⟨rfl, rfl, rfl, rfl, rfl, rfl, trivial⟩ (fun e => ?_)
            refine c_seq (fun K14 hK14 => ?_)
            refine c_reg ?_ -- region 8 sign.go:64
            refine wl (ro_move rfl) ?_
            refine wl (ro_nilCheck rfl) ?_
            refine wl (ro_fieldAddr (k := 323) rfl fo_96_8) ?_
            refine wl (ro_loadB rfl sc_53 (hB) (cel_get' (by omega) hec)) ?_
            refine wl (ro_cmp (r := decide (ec ≠ 0)) rfl rfl (congrArg some (bnec ec 0))) ?_
            refine wl_nil (x_then (hK14 _ _ ?_))
            clear hK14 K14
            refine wc_cond rfl (fun hc43 => ?_) (fun hc43 => ?_)
            · try simp only [decide_eq_true_eq, decide_eq_false_iff_not, Bool.not_eq_true', Bool.not_eq_false', Bool.not_eq_eq_eq_not, Bool.not_true, Bool.not_false, beq_iff_eq, bne_iff_ne, ne_eq, beq_eq_false_iff_ne, bne_eq_false_iff_eq, gt_iff_lt, ge_iff_le, Int.not_lt, Int.not_le] at hc43
              have hec0 : ec ≠ 0 := by simpa using hc43
              obtain ⟨h0, hbn, E2⟩ : ec = 3 ∧ brc p σ.i = none ∧ ERR f2 (3, σ.i) := by rcases hP with h | h; exact absurd h.1 hec0; exact h
              refine c_ret (x_blkR (x_thenR ?_))
              refine bp_ret Tryz.results122 rfl ?_
              rw [hsb, hbn]
              exact ⟨rfl, RP.er hB E2 rfl, hF⟩
            · try simp only [decide_eq_true_eq, decide_eq_false_iff_not, Bool.not_eq_true', Bool.not_eq_false', Bool.not_eq_eq_eq_not, Bool.not_true, Bool.not_false, beq_iff_eq, bne_iff_ne, ne_eq, beq_eq_false_iff_ne, bne_eq_false_iff_eq, gt_iff_lt, ge_iff_le, Int.not_lt, Int.not_le] at hc43
              have hec0 : ec = 0 := by simpa using hc43
              obtain ⟨lo, hh, j, hs, rfl, rfl, V2⟩ : ∃ lo hh j, brc p σ.i = some (lo, hh, j) ∧ aa = ((lo : Nat) : Int) ∧ bb = mxI hh ∧ PV f2 p { σ with i := j } T := by rcases hP with h | h; exact h.2; omega
              refine c_skip (x_blk (x_then ?_))
              exact ⟨lo, hh, j, f2, by rw [hsb]; exact hs, hB, V2, hF, kp _ ⟨rfl, rfl, rfl, rfl, rfl, rfl, trivial⟩⟩
    clear hB hF V
    rintro a' w3 ⟨lo, hh, j, f3, hs, hB, V3, hF, e, rfl⟩
    have hi3 : f3 1 = i64c j := V3.i1
    have hp3 : f3 0 = S p := V3.p0
    have hil3 : j ≤ p.length := V3.il
    have hso := sgn_ok hi hs
    have hnul : f3 (266 + ja) = .bool (nul x) := V3.nu ja x hja
    have hmx : mxI hh ≤ 3 := by cases hh with | none => simp [mxI] | some m => have := (hso.2.1 m rfl).2; simp only [mxI]; omega
    have hmx1 : -1 ≤ mxI hh := by cases hh with | none => simp [mxI] | some m => simp only [mxI]; omega
    have hq20 : (hh ≠ none) ∨ (hh = none ∧ nul x = false) ∨ (hh = none ∧ nul x = true) := by
      cases hh with
      | none => cases nul x <;> simp
      | some m => exact .inl (by simp)
    rw [hs]
    simp only
    refine c_seq (fun K15 hK15 => ?_)
    rcases hcc : p[j]? with _ | c
    rotate_left
    by_cases h63 : c = 63
    · skip
      have hlt := get_lt hcc
      subst h63
      have V4 : PV (pt f3 1 (i64c (j + 1))) p { σ with i := j + 1 } T := V3.setI (i := j + 1) (by omega)
      refine c_pi [(0, false), (1, false), (2, false), (3, false), (4, false), (5, false), (6, false), (7, false), (8, false), (9, false), (10, false), (11, false), (12, false), (13, false), (14, false), (15, false), (16, false), (17, false), (18, false), (19, false), (20, false), (21, false), (22, false)] (SameH _) mixed (by kernel_rfl) rfl (by kernel_rfl) (po_then (po_bp)) (sameH_now _ _) ?_ -- region 17 sign.go:68
      refine pi_ro rfl (fun w hS => ro_move rfl) ?_
      refine pi_ro rfl (fun w hS => ro_nilCheck rfl) ?_
      refine pi_ro rfl (fun w hS => ro_fieldAddr (k := 1) rfl fo_96_1) ?_
      refine pi_ro rfl (fun w hS => ro_loadB rfl sc_3 (Blk.of_heap hB hS) (cel_get' (by omega) hi3)) ?_
      refine pi_ro rfl (fun w hS => ro_move rfl) ?_
      refine pi_ro rfl (fun w hS => ro_nilCheck rfl) ?_
      refine pi_ro rfl (fun w hS => ro_fieldAddr (k := 0) rfl fo_96_0) ?_
      refine pi_ro rfl (fun w hS => ro_loadB rfl sc_9 (Blk.of_heap hB hS) (cel_get' (by omega) hp3)) ?_
      refine pi_ro rfl (fun w hS => ro_lenS rfl st_9) ?_
      refine pi_ro rfl (fun w hS => ro_cmp (r := true) rfl rfl (congrArg some (decide_eq_true (by omega)))) ?_
      refine pi_ro rfl (fun w hS => ro_move rfl) ?_
      refine pi_gyes rfl rfl (fun w hS => ro_move rfl) ?_
      refine pi_gyes rfl rfl (fun w hS => ro_nilCheck rfl) ?_
      refine pi_gyes rfl rfl (fun w hS => ro_fieldAddr (k := 0) rfl fo_96_0) ?_
      refine pi_gyes rfl rfl (fun w hS => ro_loadB rfl sc_9 (Blk.of_heap hB hS) (cel_get' (by omega) hp3)) ?_
      refine pi_gyes rfl rfl (fun w hS => ro_move rfl) ?_
      refine pi_gyes rfl rfl (fun w hS => ro_nilCheck rfl) ?_
      refine pi_gyes rfl rfl (fun w hS => ro_fieldAddr (k := 1) rfl fo_96_1) ?_
      refine pi_gyes rfl rfl (fun w hS => ro_loadB rfl sc_3 (Blk.of_heap hB hS) (cel_get' (by omega) hi3)) ?_
      refine pi_gyes rfl rfl (fun w hS => ro_indexS rfl rfl st_9 (rfl) (hcc)) ?_
      refine pi_gyes rfl rfl (fun w hS => ro_cmp (r := true) rfl rfl rfl) ?_
      refine pi_ro rfl (fun w hS => ro_pick rfl rfl rfl) ?_
      refine pi_ro rfl (fun w hS => ro_assign rfl) ?_
      replace hF := hF.thenDrew (k := w3.drawn + 1)
      refine pi_nil (x_then (hK15 _ _ ?_))
      clear hK15 K15
      refine c_seq (fun K16 hK16 => ?_)
      refine c_seq (fun K17 hK17 => ?_)
      refine c_reg ?_ -- region 18 sign.go:69
      refine wl (ro_move rfl) ?_
      refine wl_nil (x_then (hK17 _ _ ?_))
      clear hK17 K17
      refine wc_condT rfl ?_
      refine c_reg ?_ -- region 19 sign.go:70
      refine wl (ro_move rfl) ?_
      refine wl (ro_nilCheck rfl) ?_
      refine wl (ro_fieldAddr (k := 1) rfl fo_96_1) ?_
      refine wl (ro_loadB rfl sc_3 (hB) (cel_get' (by omega) hi3)) ?_
      refine wl (ro_arith rfl rfl rfl (Go.IntWalk.i64_in _ (by omega))) ?_
      refine wl (ro_nilCheck rfl) ?_
      refine wl (ro_fieldAddr (k := 1) rfl fo_96_1) ?_
      refine wl_put rfl rfl rfl sz_3 hB ((cel_lt (by omega))) ((cel_put 1 (by omega))) (fun w4 hB F4 => ?_)
      replace hF := hF.thenDrew.thenO F4 (by first | exact .inr (by omega) | exact .inl rfl | exact .inl (by assumption))
      replace hnul : pt f3 1 (i64c (j + 1)) (266 + ja) = .bool (nul x) := by rw [pt_ne (by omega)]; exact hnul
      refine wl_nil (x_then (hK16 _ _ ?_))
      clear hK16 K16
      refine c_seq (fun K18 hK18 => ?_)
      refine c_seq (fun K19 hK19 => ?_)
      rcases hq20 with hhn | ⟨rfl, hnx⟩ | ⟨rfl, hnx⟩
      · skip
        have hneg : ¬ mxI hh < 0 := fun h => hhn (mxI_lt.1 h)
        have hcnd : ¬ (hh = none ∧ nul x = true) := fun h => hhn h.1
        refine c_reg ?_ -- region 20 sign.go:72
        refine wl (ro_move rfl) ?_
        refine wl (ro_cmp (r := false) rfl rfl (congrArg some (decide_eq_false hneg))) ?_
        refine wl (ro_move rfl) ?_
        refine wlg_no rfl ?_
        refine wlg_no rfl ?_
        refine wlg_no rfl ?_
        refine wlg_no rfl ?_
        refine wlg_no rfl ?_
        refine wlg_no rfl ?_
        refine wl (ro_pick rfl rfl rfl) ?_
        refine wl_nil (x_then (hK19 _ _ ?_))
        clear hK19 K19
        refine wc_condF rfl ?_
        refine c_skip (x_then (hK18 _ _ ?_))
        clear hK18 K18
        refine c_piL 13 [(0, false), (1, false), (2, false), (3, false), (4, false), (5, false), (6, false), (7, false), (9, false), (10, false), (8, true), (11, false), (12, false)] (fun _ => True) mixed (by kernel_rfl) rfl (by kernel_rfl) (po_bp) (trivial) ?_ -- region 22 sign.go:76
        refine ql_ro rfl (fun w hS => ro_move rfl) ?_
        refine ql_ro rfl (fun w hS => ro_move rfl) ?_
        refine ql_ro rfl (fun w hS => ro_move rfl) ?_
        refine ql_ro rfl (fun w hS => ro_move rfl) ?_
        refine ql_ro rfl (fun w hS => ro_move rfl) ?_
        refine ql_ro rfl (fun w hS => ro_move rfl) ?_
        refine ql_ro rfl (fun w hS => ro_move rfl) ?_
        refine ql_ro rfl (fun w hS => ro_build rfl bld_89_0_1_2_3_4_6) ?_
        rw [nd0]
        refine ql_ro rfl (fun w hS => ro_nilCheck rfl) ?_
        refine ql_ro rfl (fun w hS => ro_fieldAddr (k := 291) rfl fo_96_5) ?_
        refine ql_call rfl rfl en_130 (add130 hB V4 (nd_rep (lz := true) hjn hja ⟨hso.1, hso.2.1⟩)) ?_
        rintro _ w5 ⟨⟨f5, j5, rfl, hB, hd5', hP5⟩, F5⟩
        replace hF := hF.thenDrew.trans F5
        refine ⟨trivial, ?_⟩
        refine ql_ro rfl (fun w hS => ro_indexAddrA (et := 93) (k := 5) rfl rfl ar_94 (rfl) ((by omega : σ.K.length < 6))) ?_
        refine ql_ro rfl (fun w hS => ro_fieldAddr (k := 2) rfl fo_93_2) ?_
        refine ql_put rfl rfl rfl rfl sz_3 hB ((cel_lt (by omega))) ((cel_put (293 + 5 * σ.K.length) (by omega))) (fun w5 hB F5 => ?_)
        replace hF := hF.thenDrew.thenO F5 (by first | exact .inr (by omega) | exact .inl rfl | exact .inl (by assumption))
        refine ?_
        refine bp_end Tryz.results122 rfl ?_
        refine ⟨rfl, ?_, hF⟩
        rw [if_neg hcnd]
        rcases hP5 with ⟨h24, rfl, V5⟩ | ⟨h24, rfl, E'⟩
        · exact RP.ok hB (V5.topAtom (ix_new V4.tl)) (by rw [if_neg (show ¬ 24 ≤ σ.n from Nat.not_le.2 h24), hcc]; first | rfl | (rw [if_neg hne, decide_eq_false hne]))
        · exact RP.er hB (E'.pt (by show 293 + 5 * σ.K.length ≠ 323 ∧ _; omega)) (by rw [if_pos (show 24 ≤ σ.n from h24), hcc]; first | rfl | (rw [if_neg hne]))
      · skip
        rw [hnx] at hnul
        have hcnd : ¬ ((none : Option Nat) = none ∧ nul x = true) := fun h => by rw [hnx] at h; cases h.2
        refine c_reg ?_ -- region 20 sign.go:72
        refine wl (ro_move rfl) ?_
        refine wl (ro_cmp (r := true) rfl rfl rfl) ?_
        refine wl (ro_move rfl) ?_
        refine wlg_yes rfl (ro_move rfl) ?_
        refine wlg_yes rfl (ro_move rfl) ?_
        refine wlg_yes rfl (ro_nilCheck rfl) ?_
        refine wlg_yes rfl (ro_fieldAddr (k := 266) rfl fo_96_3) ?_
        refine wlg_yes rfl (ro_indexAddrA (et := 4) (k := 1) rfl rfl ar_91 (rfl) ((by omega : ja < 24))) ?_
        refine wlg_yes rfl (ro_loadB rfl sc_4 (hB) ((cel_at (by omega) (by omega) hnul))) ?_
        refine wl (ro_pick rfl rfl rfl) ?_
        refine wl_nil (x_then (hK19 _ _ ?_))
        clear hK19 K19
        refine wc_condF rfl ?_
        refine c_skip (x_then (hK18 _ _ ?_))
        clear hK18 K18
        refine c_piL 13 [(0, false), (1, false), (2, false), (3, false), (4, false), (5, false), (6, false), (7, false), (9, false), (10, false), (8, true), (11, false), (12, false)] (fun _ => True) mixed (by kernel_rfl) rfl (by kernel_rfl) (po_bp) (trivial) ?_ -- region 22 sign.go:76
        refine ql_ro rfl (fun w hS => ro_move rfl) ?_
        refine ql_ro rfl (fun w hS => ro_move rfl) ?_
        refine ql_ro rfl (fun w hS => ro_move rfl) ?_
        refine ql_ro rfl (fun w hS => ro_move rfl) ?_
        refine ql_ro rfl (fun w hS => ro_move rfl) ?_
        refine ql_ro rfl (fun w hS => ro_move rfl) ?_
        refine ql_ro rfl (fun w hS => ro_move rfl) ?_
        refine ql_ro rfl (fun w hS => ro_build rfl bld_89_0_1_2_3_4_6) ?_
        rw [nd0]
        refine ql_ro rfl (fun w hS => ro_nilCheck rfl) ?_
        refine ql_ro rfl (fun w hS => ro_fieldAddr (k := 291) rfl fo_96_5) ?_
        refine ql_call rfl rfl en_130 (add130 hB V4 (nd_rep (lz := true) hjn hja ⟨hso.1, hso.2.1⟩)) ?_
        rintro _ w5 ⟨⟨f5, j5, rfl, hB, hd5', hP5⟩, F5⟩
        replace hF := hF.thenDrew.trans F5
        refine ⟨trivial, ?_⟩
        refine ql_ro rfl (fun w hS => ro_indexAddrA (et := 93) (k := 5) rfl rfl ar_94 (rfl) ((by omega : σ.K.length < 6))) ?_
        refine ql_ro rfl (fun w hS => ro_fieldAddr (k := 2) rfl fo_93_2) ?_
        refine ql_put rfl rfl rfl rfl sz_3 hB ((cel_lt (by omega))) ((cel_put (293 + 5 * σ.K.length) (by omega))) (fun w6 hB F6 => ?_)
        replace hF := hF.thenDrew.thenO F6 (by first | exact .inr (by omega) | exact .inl rfl | exact .inl (by assumption))
        refine ?_
        refine bp_end Tryz.results122 rfl ?_
        refine ⟨rfl, ?_, hF⟩
        rw [if_neg hcnd]
        rcases hP5 with ⟨h24, rfl, V5⟩ | ⟨h24, rfl, E'⟩
        · exact RP.ok hB (V5.topAtom (ix_new V4.tl)) (by rw [if_neg (show ¬ 24 ≤ σ.n from Nat.not_le.2 h24), hcc]; first | rfl | (rw [if_neg hne, decide_eq_false hne]))
        · exact RP.er hB (E'.pt (by show 293 + 5 * σ.K.length ≠ 323 ∧ _; omega)) (by rw [if_pos (show 24 ≤ σ.n from h24), hcc]; first | rfl | (rw [if_neg hne]))
      · skip
        rw [hnx] at hnul
        refine c_reg ?_ -- region 20 sign.go:72
        refine wl (ro_move rfl) ?_
        refine wl (ro_cmp (r := true) rfl rfl rfl) ?_
        refine wl (ro_move rfl) ?_
        refine wlg_yes rfl (ro_move rfl) ?_
        refine wlg_yes rfl (ro_move rfl) ?_
        refine wlg_yes rfl (ro_nilCheck rfl) ?_
        refine wlg_yes rfl (ro_fieldAddr (k := 266) rfl fo_96_3) ?_
        refine wlg_yes rfl (ro_indexAddrA (et := 4) (k := 1) rfl rfl ar_91 (rfl) ((by omega : ja < 24))) ?_
        refine wlg_yes rfl (ro_loadB rfl sc_4 (hB) ((cel_at (by omega) (by omega) hnul))) ?_
        refine wl (ro_pick rfl rfl rfl) ?_
        refine wl_nil (x_then (hK19 _ _ ?_))
        clear hK19 K19
        refine wc_condT rfl ?_
        refine c_seq (fun K20 hK20 => ?_)
        refine c_reg ?_ -- region 21 sign.go:73
        refine wl (ro_move rfl) ?_
        refine wl (ro_move rfl) ?_
        refine wl_call rfl en_97 (fail97 hB) ?_
        rintro _ w9 ⟨rfl, hB, F9⟩
        replace hF := hF.trans F9
        refine wl_nil (x_then (hK20 _ _ ?_))
        clear hK20 K20
        refine c_ret (x_thenR ?_)
        refine bp_ret Tryz.results122 rfl ?_
        exact ⟨rfl, RP.er (e := (5, σ.i)) hB (err97 V4) (if_pos ⟨rfl, hnx⟩), hF⟩
    · skip
      have hlt := get_lt hcc
      have hne : ¬ (some c = some (63 : UInt8)) := by simpa using h63
      have V4 : PV f3 p { σ with i := j } T := V3
      refine c_pi [(0, false), (1, false), (2, false), (3, false), (4, false), (5, false), (6, false), (7, false), (8, false), (9, false), (10, false), (11, false), (12, false), (13, false), (14, false), (15, false), (16, false), (17, false), (18, false), (19, false), (20, false), (21, false), (22, false)] (SameH _) mixed (by kernel_rfl) rfl (by kernel_rfl) (po_then (po_bp)) (sameH_now _ _) ?_ -- region 17 sign.go:68
      refine pi_ro rfl (fun w hS => ro_move rfl) ?_
      refine pi_ro rfl (fun w hS => ro_nilCheck rfl) ?_
      refine pi_ro rfl (fun w hS => ro_fieldAddr (k := 1) rfl fo_96_1) ?_
      refine pi_ro rfl (fun w hS => ro_loadB rfl sc_3 (Blk.of_heap hB hS) (cel_get' (by omega) hi3)) ?_
      refine pi_ro rfl (fun w hS => ro_move rfl) ?_
      refine pi_ro rfl (fun w hS => ro_nilCheck rfl) ?_
      refine pi_ro rfl (fun w hS => ro_fieldAddr (k := 0) rfl fo_96_0) ?_
      refine pi_ro rfl (fun w hS => ro_loadB rfl sc_9 (Blk.of_heap hB hS) (cel_get' (by omega) hp3)) ?_
      refine pi_ro rfl (fun w hS => ro_lenS rfl st_9) ?_
      refine pi_ro rfl (fun w hS => ro_cmp (r := true) rfl rfl (congrArg some (decide_eq_true (by omega)))) ?_
      refine pi_ro rfl (fun w hS => ro_move rfl) ?_
      refine pi_gyes rfl rfl (fun w hS => ro_move rfl) ?_
      refine pi_gyes rfl rfl (fun w hS => ro_nilCheck rfl) ?_
      refine pi_gyes rfl rfl (fun w hS => ro_fieldAddr (k := 0) rfl fo_96_0) ?_
      refine pi_gyes rfl rfl (fun w hS => ro_loadB rfl sc_9 (Blk.of_heap hB hS) (cel_get' (by omega) hp3)) ?_
      refine pi_gyes rfl rfl (fun w hS => ro_move rfl) ?_
      refine pi_gyes rfl rfl (fun w hS => ro_nilCheck rfl) ?_
      refine pi_gyes rfl rfl (fun w hS => ro_fieldAddr (k := 1) rfl fo_96_1) ?_
      refine pi_gyes rfl rfl (fun w hS => ro_loadB rfl sc_3 (Blk.of_heap hB hS) (cel_get' (by omega) hi3)) ?_
      refine pi_gyes rfl rfl (fun w hS => ro_indexS rfl rfl st_9 (rfl) (hcc)) ?_
      refine pi_gyes rfl rfl (fun w hS => ro_cmp (r := false) rfl rfl (congrArg some ((u8eq c 63).trans (decide_eq_false h63)))) ?_
      refine pi_ro rfl (fun w hS => ro_pick rfl rfl rfl) ?_
      refine pi_ro rfl (fun w hS => ro_assign rfl) ?_
      replace hF := hF.thenDrew (k := w3.drawn + 1)
      refine pi_nil (x_then (hK15 _ _ ?_))
      clear hK15 K15
      refine c_seq (fun K21 hK21 => ?_)
      refine c_seq (fun K22 hK22 => ?_)
      refine c_reg ?_ -- region 18 sign.go:69
      refine wl (ro_move rfl) ?_
      refine wl_nil (x_then (hK22 _ _ ?_))
      clear hK22 K22
      refine wc_condF rfl ?_
      refine c_skip (x_then (hK21 _ _ ?_))
      clear hK21 K21
      refine c_seq (fun K23 hK23 => ?_)
      refine c_seq (fun K24 hK24 => ?_)
      rcases hq20 with hhn | ⟨rfl, hnx⟩ | ⟨rfl, hnx⟩
      · skip
        have hneg : ¬ mxI hh < 0 := fun h => hhn (mxI_lt.1 h)
        have hcnd : ¬ (hh = none ∧ nul x = true) := fun h => hhn h.1
        refine c_reg ?_ -- region 20 sign.go:72
        refine wl (ro_move rfl) ?_
        refine wl (ro_cmp (r := false) rfl rfl (congrArg some (decide_eq_false hneg))) ?_
        refine wl (ro_move rfl) ?_
        refine wlg_no rfl ?_
        refine wlg_no rfl ?_
        refine wlg_no rfl ?_
        refine wlg_no rfl ?_
        refine wlg_no rfl ?_
        refine wlg_no rfl ?_
        refine wl (ro_pick rfl rfl rfl) ?_
        refine wl_nil (x_then (hK24 _ _ ?_))
        clear hK24 K24
        refine wc_condF rfl ?_
        refine c_skip (x_then (hK23 _ _ ?_))
        clear hK23 K23
        refine c_piL 13 [(0, false), (1, false), (2, false), (3, false), (4, false), (5, false), (6, false), (7, false), (9, false), (10, false), (8, true), (11, false), (12, false)] (fun _ => True) mixed (by kernel_rfl) rfl (by kernel_rfl) (po_bp) (trivial) ?_ -- region 22 sign.go:76
        refine ql_ro rfl (fun w hS => ro_move rfl) ?_
        refine ql_ro rfl (fun w hS => ro_move rfl) ?_
        refine ql_ro rfl (fun w hS => ro_move rfl) ?_
        refine ql_ro rfl (fun w hS => ro_move rfl) ?_
        refine ql_ro rfl (fun w hS => ro_move rfl) ?_
        refine ql_ro rfl (fun w hS => ro_move rfl) ?_
        refine ql_ro rfl (fun w hS => ro_move rfl) ?_
        refine ql_ro rfl (fun w hS => ro_build rfl bld_89_0_1_2_3_4_6) ?_
        rw [nd0]
        refine ql_ro rfl (fun w hS => ro_nilCheck rfl) ?_
        refine ql_ro rfl (fun w hS => ro_fieldAddr (k := 291) rfl fo_96_5) ?_
        refine ql_call rfl rfl en_130 (add130 hB V4 (nd_rep (lz := false) hjn hja ⟨hso.1, hso.2.1⟩)) ?_
        rintro _ w5 ⟨⟨f5, j5, rfl, hB, hd5', hP5⟩, F5⟩
        replace hF := hF.thenDrew.trans F5
        refine ⟨trivial, ?_⟩
        refine ql_ro rfl (fun w hS => ro_indexAddrA (et := 93) (k := 5) rfl rfl ar_94 (rfl) ((by omega : σ.K.length < 6))) ?_
        refine ql_ro rfl (fun w hS => ro_fieldAddr (k := 2) rfl fo_93_2) ?_
        refine ql_put rfl rfl rfl rfl sz_3 hB ((cel_lt (by omega))) ((cel_put (293 + 5 * σ.K.length) (by omega))) (fun w7 hB F7 => ?_)
        replace hF := hF.thenDrew.thenO F7 (by first | exact .inr (by omega) | exact .inl rfl | exact .inl (by assumption))
        refine ?_
        refine bp_end Tryz.results122 rfl ?_
        refine ⟨rfl, ?_, hF⟩
        rw [if_neg hcnd]
        rcases hP5 with ⟨h24, rfl, V5⟩ | ⟨h24, rfl, E'⟩
        · exact RP.ok hB (V5.topAtom (ix_new V4.tl)) (by rw [if_neg (show ¬ 24 ≤ σ.n from Nat.not_le.2 h24), hcc]; first | rfl | (rw [if_neg hne, decide_eq_false hne]))
        · exact RP.er hB (E'.pt (by show 293 + 5 * σ.K.length ≠ 323 ∧ _; omega)) (by rw [if_pos (show 24 ≤ σ.n from h24), hcc]; first | rfl | (rw [if_neg hne]))
      · skip
        rw [hnx] at hnul
        have hcnd : ¬ ((none : Option Nat) = none ∧ nul x = true) := fun h => by rw [hnx] at h; cases h.2
        refine c_reg ?_ -- region 20 sign.go:72
        refine wl (ro_move rfl) ?_
        refine wl (ro_cmp (r := true) rfl rfl rfl) ?_
        refine wl (ro_move rfl) ?_
        refine wlg_yes rfl (ro_move rfl) ?_
        refine wlg_yes rfl (ro_move rfl) ?_
        refine wlg_yes rfl (ro_nilCheck rfl) ?_
        refine wlg_yes rfl (ro_fieldAddr (k := 266) rfl fo_96_3) ?_
        refine wlg_yes rfl (ro_indexAddrA (et := 4) (k := 1) rfl rfl ar_91 (rfl) ((by omega : ja < 24))) ?_
        refine wlg_yes rfl (ro_loadB rfl sc_4 (hB) ((cel_at (by omega) (by omega) hnul))) ?_
        refine wl (ro_pick rfl rfl rfl) ?_
        refine wl_nil (x_then (hK24 _ _ ?_))
        clear hK24 K24
        refine wc_condF rfl ?_
        refine c_skip (x_then (hK23 _ _ ?_))
        clear hK23 K23
        refine c_piL 13 [(0, false), (1, false), (2, false), (3, false), (4, false), (5, false), (6, false), (7, false), (9, false), (10, false), (8, true), (11, false), (12, false)] (fun _ => True) mixed (by kernel_rfl) rfl (by kernel_rfl) (po_bp) (trivial) ?_ -- region 22 sign.go:76
        refine ql_ro rfl (fun w hS => ro_move rfl) ?_
        refine ql_ro rfl (fun w hS => ro_move rfl) ?_
        refine ql_ro rfl (fun w hS => ro_move rfl) ?_
        refine ql_ro rfl (fun w hS => ro_move rfl) ?_
        refine ql_ro rfl (fun w hS => ro_move rfl) ?_
        refine ql_ro rfl (fun w hS => ro_move rfl) ?_
        refine ql_ro rfl (fun w hS => ro_move rfl) ?_
        refine ql_ro rfl (fun w hS => ro_build rfl bld_89_0_1_2_3_4_6) ?_
        rw [nd0]
        refine ql_ro rfl (fun w hS => ro_nilCheck rfl) ?_
        refine ql_ro rfl (fun w hS => ro_fieldAddr (k := 291) rfl fo_96_5) ?_
        refine ql_call rfl rfl en_130 (add130 hB V4 (nd_rep (lz := false) hjn hja ⟨hso.1, hso.2.1⟩)) ?_
        rintro _ w5 ⟨⟨f5, j5, rfl, hB, hd5', hP5⟩, F5⟩
        replace hF := hF.thenDrew.trans F5
        refine ⟨trivial, ?_⟩
        refine ql_ro rfl (fun w hS => ro_indexAddrA (et := 93) (k := 5) rfl rfl ar_94 (rfl) ((by omega : σ.K.length < 6))) ?_
        refine ql_ro rfl (fun w hS => ro_fieldAddr (k := 2) rfl fo_93_2) ?_
        refine ql_put rfl rfl rfl rfl sz_3 hB ((cel_lt (by omega))) ((cel_put (293 + 5 * σ.K.length) (by omega))) (fun w8 hB F8 => ?_)
        replace hF := hF.thenDrew.thenO F8 (by first | exact .inr (by omega) | exact .inl rfl | exact .inl (by assumption))
        refine ?_
        refine bp_end Tryz.results122 rfl ?_
        refine ⟨rfl, ?_, hF⟩
        rw [if_neg hcnd]
        rcases hP5 with ⟨h24, rfl, V5⟩ | ⟨h24, rfl, E'⟩
        · exact RP.ok hB (V5.topAtom (ix_new V4.tl)) (by rw [if_neg (show ¬ 24 ≤ σ.n from Nat.not_le.2 h24), hcc]; first | rfl | (rw [if_neg hne, decide_eq_false hne]))
        · exact RP.er hB (E'.pt (by show 293 + 5 * σ.K.length ≠ 323 ∧ _; omega)) (by rw [if_pos (show 24 ≤ σ.n from h24), hcc]; first | rfl | (rw [if_neg hne]))
      · skip
        rw [hnx] at hnul
        refine c_reg ?_ -- region 20 sign.go:72
        refine wl (ro_move rfl) ?_
        refine wl (ro_cmp (r := true) rfl rfl rfl) ?_
        refine wl (ro_move rfl) ?_
        refine wlg_yes rfl (ro_move rfl) ?_
        refine wlg_yes rfl (ro_move rfl) ?_
        refine wlg_yes rfl (ro_nilCheck rfl) ?_
        refine wlg_yes rfl (ro_fieldAddr (k := 266) rfl fo_96_3) ?_
        refine wlg_yes rfl (ro_indexAddrA (et := 4) (k := 1) rfl rfl ar_91 (rfl) ((by omega : ja < 24))) ?_
        refine wlg_yes rfl (ro_loadB rfl sc_4 (hB) ((cel_at (by omega) (by omega) hnul))) ?_
        refine wl (ro_pick rfl rfl rfl) ?_
        refine wl_nil (x_then (hK24 _ _ ?_))
        clear hK24 K24
        refine wc_condT rfl ?_
        refine c_seq (fun K25 hK25 => ?_)
        refine c_reg ?_ -- region 21 sign.go:73
        refine wl (ro_move rfl) ?_
        refine wl (ro_move rfl) ?_
        refine wl_call rfl en_97 (fail97 hB) ?_
        rintro _ w9 ⟨rfl, hB, F9⟩
        replace hF := hF.trans F9
        refine wl_nil (x_then (hK25 _ _ ?_))
        clear hK25 K25
        refine c_ret (x_thenR ?_)
        refine bp_ret Tryz.results122 rfl ?_
        exact ⟨rfl, RP.er (e := (5, σ.i)) hB (err97 V4) (if_pos ⟨rfl, hnx⟩), hF⟩
    · skip
      have hge : p.length ≤ j := List.getElem?_eq_none_iff.1 hcc
      have hne : ¬ ((none : Option UInt8) = some 63) := by simp
      have V4 : PV f3 p { σ with i := j } T := V3
      refine c_pi [(0, false), (1, false), (2, false), (3, false), (4, false), (5, false), (6, false), (7, false), (8, false), (9, false), (10, false), (11, false), (12, false), (13, false), (14, false), (15, false), (16, false), (17, false), (18, false), (19, false), (20, false), (21, false), (22, false)] (SameH _) mixed (by kernel_rfl) rfl (by kernel_rfl) (po_then (po_bp)) (sameH_now _ _) ?_ -- region 17 sign.go:68
      refine pi_ro rfl (fun w hS => ro_move rfl) ?_
      refine pi_ro rfl (fun w hS => ro_nilCheck rfl) ?_
      refine pi_ro rfl (fun w hS => ro_fieldAddr (k := 1) rfl fo_96_1) ?_
      refine pi_ro rfl (fun w hS => ro_loadB rfl sc_3 (Blk.of_heap hB hS) (cel_get' (by omega) hi3)) ?_
      refine pi_ro rfl (fun w hS => ro_move rfl) ?_
      refine pi_ro rfl (fun w hS => ro_nilCheck rfl) ?_
      refine pi_ro rfl (fun w hS => ro_fieldAddr (k := 0) rfl fo_96_0) ?_
      refine pi_ro rfl (fun w hS => ro_loadB rfl sc_9 (Blk.of_heap hB hS) (cel_get' (by omega) hp3)) ?_
      refine pi_ro rfl (fun w hS => ro_lenS rfl st_9) ?_
      refine pi_ro rfl (fun w hS => ro_cmp (r := false) rfl rfl (congrArg some (decide_eq_false (by omega)))) ?_
      refine pi_ro rfl (fun w hS => ro_move rfl) ?_
      refine pi_gno rfl rfl ?_
      refine pi_gno rfl rfl ?_
      refine pi_gno rfl rfl ?_
      refine pi_gno rfl rfl ?_
      refine pi_gno rfl rfl ?_
      refine pi_gno rfl rfl ?_
      refine pi_gno rfl rfl ?_
      refine pi_gno rfl rfl ?_
      refine pi_gno rfl rfl ?_
      refine pi_gno rfl rfl ?_
      refine pi_ro rfl (fun w hS => ro_pick rfl rfl rfl) ?_
      refine pi_ro rfl (fun w hS => ro_assign rfl) ?_
      replace hF := hF.thenDrew (k := w3.drawn + 1)
      refine pi_nil (x_then (hK15 _ _ ?_))
      clear hK15 K15
      refine c_seq (fun K26 hK26 => ?_)
      refine c_seq (fun K27 hK27 => ?_)
      refine c_reg ?_ -- region 18 sign.go:69
      refine wl (ro_move rfl) ?_
      refine wl_nil (x_then (hK27 _ _ ?_))
      clear hK27 K27
      refine wc_condF rfl ?_
      refine c_skip (x_then (hK26 _ _ ?_))
      clear hK26 K26
      refine c_seq (fun K28 hK28 => ?_)
      refine c_seq (fun K29 hK29 => ?_)
      rcases hq20 with hhn | ⟨rfl, hnx⟩ | ⟨rfl, hnx⟩
      · skip
        have hneg : ¬ mxI hh < 0 := fun h => hhn (mxI_lt.1 h)
        have hcnd : ¬ (hh = none ∧ nul x = true) := fun h => hhn h.1
        refine c_reg ?_ -- region 20 sign.go:72
        refine wl (ro_move rfl) ?_
        refine wl (ro_cmp (r := false) rfl rfl (congrArg some (decide_eq_false hneg))) ?_
        refine wl (ro_move rfl) ?_
        refine wlg_no rfl ?_
        refine wlg_no rfl ?_
        refine wlg_no rfl ?_
        refine wlg_no rfl ?_
        refine wlg_no rfl ?_
        refine wlg_no rfl ?_
        refine wl (ro_pick rfl rfl rfl) ?_
        refine wl_nil (x_then (hK29 _ _ ?_))
        clear hK29 K29
        refine wc_condF rfl ?_
        refine c_skip (x_then (hK28 _ _ ?_))
        clear hK28 K28
        refine c_piL 13 [(0, false), (1, false), (2, false), (3, false), (4, false), (5, false), (6, false), (7, false), (9, false), (10, false), (8, true), (11, false), (12, false)] (fun _ => True) mixed (by kernel_rfl) rfl (by kernel_rfl) (po_bp) (trivial) ?_ -- region 22 sign.go:76
        refine ql_ro rfl (fun w hS => ro_move rfl) ?_
        refine ql_ro rfl (fun w hS => ro_move rfl) ?_
        refine ql_ro rfl (fun w hS => ro_move rfl) ?_
        refine ql_ro rfl (fun w hS => ro_move rfl) ?_
        refine ql_ro rfl (fun w hS => ro_move rfl) ?_
        refine ql_ro rfl (fun w hS => ro_move rfl) ?_
        refine ql_ro rfl (fun w hS => ro_move rfl) ?_
        refine ql_ro rfl (fun w hS => ro_build rfl bld_89_0_1_2_3_4_6) ?_
        rw [nd0]
        refine ql_ro rfl (fun w hS => ro_nilCheck rfl) ?_
        refine ql_ro rfl (fun w hS => ro_fieldAddr (k := 291) rfl fo_96_5) ?_
        refine ql_call rfl rfl en_130 (add130 hB V4 (nd_rep (lz := false) hjn hja ⟨hso.1, hso.2.1⟩)) ?_
        rintro _ w5 ⟨⟨f5, j5, rfl, hB, hd5', hP5⟩, F5⟩
        replace hF := hF.thenDrew.trans F5
        refine ⟨trivial, ?_⟩
        refine ql_ro rfl (fun w hS => ro_indexAddrA (et := 93) (k := 5) rfl rfl ar_94 (rfl) ((by omega : σ.K.length < 6))) ?_
        refine ql_ro rfl (fun w hS => ro_fieldAddr (k := 2) rfl fo_93_2) ?_
        refine ql_put rfl rfl rfl rfl sz_3 hB ((cel_lt (by omega))) ((cel_put (293 + 5 * σ.K.length) (by omega))) (fun w9 hB F9 => ?_)
        replace hF := hF.thenDrew.thenO F9 (by first | exact .inr (by omega) | exact .inl rfl | exact .inl (by assumption))
        refine ?_
        refine bp_end Tryz.results122 rfl ?_
        refine ⟨rfl, ?_, hF⟩
        rw [if_neg hcnd]
        rcases hP5 with ⟨h24, rfl, V5⟩ | ⟨h24, rfl, E'⟩
        · exact RP.ok hB (V5.topAtom (ix_new V4.tl)) (by rw [if_neg (show ¬ 24 ≤ σ.n from Nat.not_le.2 h24), hcc]; first | rfl | (rw [if_neg hne, decide_eq_false hne]))
        · exact RP.er hB (E'.pt (by show 293 + 5 * σ.K.length ≠ 323 ∧ _; omega)) (by rw [if_pos (show 24 ≤ σ.n from h24), hcc]; first | rfl | (rw [if_neg hne]))
      · skip
        rw [hnx] at hnul
        have hcnd : ¬ ((none : Option Nat) = none ∧ nul x = true) := fun h => by rw [hnx] at h; cases h.2
        refine c_reg ?_ -- region 20 sign.go:72
        refine wl (ro_move rfl) ?_
        refine wl (ro_cmp (r := true) rfl rfl rfl) ?_
        refine wl (ro_move rfl) ?_
        refine wlg_yes rfl (ro_move rfl) ?_
        refine wlg_yes rfl (ro_move rfl) ?_
        refine wlg_yes rfl (ro_nilCheck rfl) ?_
        refine wlg_yes rfl (ro_fieldAddr (k := 266) rfl fo_96_3) ?_
        refine wlg_yes rfl (ro_indexAddrA (et := 4) (k := 1) rfl rfl ar_91 (rfl) ((by omega : ja < 24))) ?_
        refine wlg_yes rfl (ro_loadB rfl sc_4 (hB) ((cel_at (by omega) (by omega) hnul))) ?_
        refine wl (ro_pick rfl rfl rfl) ?_
        refine wl_nil (x_then (hK29 _ _ ?_))
        clear hK29 K29
        refine wc_condF rfl ?_
        refine c_skip (x_then (hK28 _ _ ?_))
        clear hK28 K28
        refine c_piL 13 [(0, false), (1, false), (2, false), (3, false), (4, false), (5, false), (6, false), (7, false), (9, false), (10, false), (8, true), (11, false), (12, false)] (fun _ => True) mixed (by kernel_rfl) rfl (by kernel_rfl) (po_bp) (trivial) ?_ -- region 22 sign.go:76
        refine ql_ro rfl (fun w hS => ro_move rfl) ?_
        refine ql_ro rfl (fun w hS => ro_move rfl) ?_
        refine ql_ro rfl (fun w hS => ro_move rfl) ?_
        refine ql_ro rfl (fun w hS => ro_move rfl) ?_
        refine ql_ro rfl (fun w hS => ro_move rfl) ?_
        refine ql_ro rfl (fun w hS => ro_move rfl) ?_
        refine ql_ro rfl (fun w hS => ro_move rfl) ?_
        refine ql_ro rfl (fun w hS => ro_build rfl bld_89_0_1_2_3_4_6) ?_
        rw [nd0]
        refine ql_ro rfl (fun w hS => ro_nilCheck rfl) ?_
        refine ql_ro rfl (fun w hS => ro_fieldAddr (k := 291) rfl fo_96_5) ?_
        refine ql_call rfl rfl en_130 (add130 hB V4 (nd_rep (lz := false) hjn hja ⟨hso.1, hso.2.1⟩)) ?_
        rintro _ w5 ⟨⟨f5, j5, rfl, hB, hd5', hP5⟩, F5⟩
        replace hF := hF.thenDrew.trans F5
        refine ⟨trivial, ?_⟩
        refine ql_ro rfl (fun w hS => ro_indexAddrA (et := 93) (k := 5) rfl rfl ar_94 (rfl) ((by omega : σ.K.length < 6))) ?_
        refine ql_ro rfl (fun w hS => ro_fieldAddr (k := 2) rfl fo_93_2) ?_
        refine ql_put rfl rfl rfl rfl sz_3 hB ((cel_lt (by omega))) ((cel_put (293 + 5 * σ.K.length) (by omega))) (fun w10 hB F10 => ?_)
        replace hF := hF.thenDrew.thenO F10 (by first | exact .inr (by omega) | exact .inl rfl | exact .inl (by assumption))
        refine ?_
        refine bp_end Tryz.results122 rfl ?_
        refine ⟨rfl, ?_, hF⟩
        rw [if_neg hcnd]
        rcases hP5 with ⟨h24, rfl, V5⟩ | ⟨h24, rfl, E'⟩
        · exact RP.ok hB (V5.topAtom (ix_new V4.tl)) (by rw [if_neg (show ¬ 24 ≤ σ.n from Nat.not_le.2 h24), hcc]; first | rfl | (rw [if_neg hne, decide_eq_false hne]))
        · exact RP.er hB (E'.pt (by show 293 + 5 * σ.K.length ≠ 323 ∧ _; omega)) (by rw [if_pos (show 24 ≤ σ.n from h24), hcc]; first | rfl | (rw [if_neg hne]))
      · skip
        rw [hnx] at hnul
        refine c_reg ?_ -- region 20 sign.go:72
        refine wl (ro_move rfl) ?_
        refine wl (ro_cmp (r := true) rfl rfl rfl) ?_
        refine wl (ro_move rfl) ?_
        refine wlg_yes rfl (ro_move rfl) ?_
        refine wlg_yes rfl (ro_move rfl) ?_
        refine wlg_yes rfl (ro_nilCheck rfl) ?_
        refine wlg_yes rfl (ro_fieldAddr (k := 266) rfl fo_96_3) ?_
        refine wlg_yes rfl (ro_indexAddrA (et := 4) (k := 1) rfl rfl ar_91 (rfl) ((by omega : ja < 24))) ?_
        refine wlg_yes rfl (ro_loadB rfl sc_4 (hB) ((cel_at (by omega) (by omega) hnul))) ?_
        refine wl (ro_pick rfl rfl rfl) ?_
        refine wl_nil (x_then (hK29 _ _ ?_))
        clear hK29 K29
        refine wc_condT rfl ?_
        refine c_seq (fun K30 hK30 => ?_)
        refine c_reg ?_ -- region 21 sign.go:73
        refine wl (ro_move rfl) ?_
        refine wl (ro_move rfl) ?_
        refine wl_call rfl en_97 (fail97 hB) ?_
        rintro _ w9 ⟨rfl, hB, F9⟩
        replace hF := hF.trans F9
        refine wl_nil (x_then (hK30 _ _ ?_))
        clear hK30 K30
        refine c_ret (x_thenR ?_)
        refine bp_ret Tryz.results122 rfl ?_
        exact ⟨rfl, RP.er (e := (5, σ.i)) hB (err97 V4) (if_pos ⟨rfl, hnx⟩), hF⟩

end Go.Proofs.Qxb6500567aGreat
