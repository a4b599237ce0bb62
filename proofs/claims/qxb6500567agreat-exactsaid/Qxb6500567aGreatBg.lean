import Derived.Test.Qxb6500567aGreatBf
/- The real parser: escapes, members of a class. -/
namespace Go.Proofs.Qxb6500567aGreat
set_option linter.unusedVariables false
set_option linter.unusedSimpArgs false

/-- What escape and item leave. -/
def EP (xb : Nat) (p : List UInt8) (σ : RS) (T : List RE) (X : Except Er (Cset × Bool × Nat × Nat)) (r : Value) (w' : World) : Prop :=
  ∃ (Z : Nat) (b : UInt8) (o : Bool) (f2 : Nat → Value) (ec : Nat), r = .tuple #[setV Z, .bool o, u8c b] ∧ FB w'.heap xb 325 f2 96 ∧ f2 323 = i64c ec ∧
    ((ec = 0 ∧ ∃ j, X = .ok (Z, o, b.toNat, j) ∧ PV f2 p { σ with i := j } T) ∨ (ec ≠ 0 ∧ ∃ e, X = .error e ∧ e.1 = ec ∧ ERR f2 e))

theorem EP.ok {xb : Nat} {p : List UInt8} {σ : RS} {T : List RE} {X : Except Er (Cset × Bool × Nat × Nat)} {w' : World} {Z j : Nat} {b : UInt8} {o : Bool} {f2 : Nat → Value} (hB : FB w'.heap xb 325 f2 96) (V : PV f2 p { σ with i := j } T) (hX : X = .ok (Z, o, b.toNat, j)) : EP xb p σ T X (.tuple #[setV Z, .bool o, u8c b]) w' :=
  ⟨Z, b, o, f2, 0, rfl, hB, V.er, .inl ⟨rfl, j, hX, V⟩⟩
theorem EP.er {xb : Nat} {p : List UInt8} {σ : RS} {T : List RE} {X : Except Er (Cset × Bool × Nat × Nat)} {w' : World} {i : Nat} {f2 : Nat → Value} (hB : FB w'.heap xb 325 f2 96) (E : ERR f2 (4, i)) (hX : X = .error (4, i)) : EP xb p σ T X (.tuple #[setV 0, .bool false, u8c 0]) w' :=
  ⟨0, 0, false, f2, 4, rfl, hB, E.1, .inr ⟨by omega, _, hX, rfl, E⟩⟩

theorem escB_named {c : UInt8} {h l : Option UInt8} {Z : Nat} (hn : namedS c = some Z) : escB c h l = some (Z, false, 0, 2) := by
  unfold namedS at hn
  by_cases h100 : c = 100
  · subst h100; rw [if_pos rfl] at hn; cases hn; rfl
  rw [if_neg h100] at hn
  by_cases h68 : c = 68
  · subst h68; rw [if_pos rfl] at hn; cases hn; rfl
  rw [if_neg h68] at hn
  by_cases h119 : c = 119
  · subst h119; rw [if_pos rfl] at hn; cases hn; rfl
  rw [if_neg h119] at hn
  by_cases h87 : c = 87
  · subst h87; rw [if_pos rfl] at hn; cases hn; rfl
  rw [if_neg h87] at hn
  by_cases h115 : c = 115
  · subst h115; rw [if_pos rfl] at hn; cases hn; rfl
  rw [if_neg h115] at hn
  by_cases h83 : c = 83
  · subst h83; rw [if_pos rfl] at hn; cases hn; rfl
  rw [if_neg h83] at hn
  cases hn

theorem escB_last {c : UInt8} {h l : Option UInt8} (hn : namedS c = none) (h1 : c ≠ 110) (h2 : c ≠ 116) (h3 : c ≠ 114) (h4 : c ≠ 120) : escB c h l = if isAln c then none else some (rng c.toNat c.toNat, true, c.toNat, 2) := by
  unfold namedS at hn
  by_cases h100 : c = 100
  · rw [if_pos h100] at hn; cases hn
  rw [if_neg h100] at hn
  by_cases h68 : c = 68
  · rw [if_pos h68] at hn; cases hn
  rw [if_neg h68] at hn
  by_cases h119 : c = 119
  · rw [if_pos h119] at hn; cases hn
  rw [if_neg h119] at hn
  by_cases h87 : c = 87
  · rw [if_pos h87] at hn; cases hn
  rw [if_neg h87] at hn
  by_cases h115 : c = 115
  · rw [if_pos h115] at hn; cases hn
  rw [if_neg h115] at hn
  by_cases h83 : c = 83
  · rw [if_pos h83] at hn; cases hn
  unfold escB
  rw [if_neg h1, if_neg h2, if_neg h3, if_neg h100, if_neg h68, if_neg h119, if_neg h87, if_neg h115, if_neg h83, if_neg h4]

theorem named_x : namedS 120 = none := rfl
theorem escB_x {h l : Option UInt8} : escB 120 h l = match h, l with
    | some h, some l => if 0 ≤ hexv h ∧ 0 ≤ hexv l then some (rng (hexv h * 16 + hexv l).toNat (hexv h * 16 + hexv l).toNat, true, (hexv h * 16 + hexv l).toNat, 4) else none
    | _, _ => none := rfl

theorem isAln_t {c : UInt8} (h : (48 ≤ c.toNat ∧ c.toNat ≤ 57) ∨ (65 ≤ c.toNat ∧ c.toNat ≤ 90) ∨ (97 ≤ c.toNat ∧ c.toNat ≤ 122)) : isAln c = true := by unfold isAln; exact decide_eq_true h
theorem isAln_f {c : UInt8} (h : ¬ ((48 ≤ c.toNat ∧ c.toNat ≤ 57) ∨ (65 ≤ c.toNat ∧ c.toNat ≤ 90) ∨ (97 ≤ c.toNat ∧ c.toNat ≤ 122))) : isAln c = false := by unfold isAln; exact decide_eq_false h
theorem hexv_ge (b : UInt8) : -1 ≤ hexv b := by
  unfold hexv
  by_cases h1 : isDig b = true
  · rw [if_pos h1]; have := isDig_iff.1 h1; omega
  · rw [if_neg h1]
    split
    · omega
    · split <;> omega

set_option maxHeartbeats 2000000 in
theorem escape126 {w : World} {xb : Nat} {f : Nat → Value} {p : List UInt8} {σ : RS} {T : List RE} (hB : FB w.heap xb 325 f 96) (V : PV f p σ T) (hi : σ.i < p.length) :
    Ret Tryz.prog 126 [ptr xb] w (fun r w' => EP xb p σ T (esc p σ.i) r w' ∧ Fram (one xb) w w') := by
  have hF : Fram (one xb) w w := Fram.refl _ _
  have hpl := V.pl
  unfold esc
  cases hc : p[σ.i + 1]? with
  | none =>
    have hge : p.length ≤ σ.i + 1 := List.getElem?_eq_none_iff.1 hc
    refine ret_of Tryz.func126 rfl Tryz.ntmps126 rfl ?_
    refine c_seq (fun K1 hK1 => ?_)
    refine c_reg ?_ -- region 0 class.go:78
    refine wl_new (ze_87) (fun mb w1 hbmb hM F1 => ?_)
    have hbsmb := Nat.le_trans hF.size hbmb
    have hnexbmb : xb < mb := Nat.lt_of_lt_of_le hB.lt hbmb
    replace hF := hF.thenDrew.thenN F1
    replace hB := F1.blkN hB
    refine wl (ro_assign rfl) ?_
    refine wl (ro_assign rfl) ?_
    refine wl_nil (x_then (hK1 _ _ ?_))
    clear hK1 K1
    refine forget [(0, _), (2, _)] ⟨rfl, rfl, trivial⟩ (fun e => ?_)
    refine c_seq (fun K2 hK2 => ?_)
    refine c_reg ?_ -- region 1 class.go:79
    refine wl (ro_move rfl) ?_
    refine wl (ro_nilCheck rfl) ?_
    refine wl (ro_fieldAddr (k := 1) rfl fo_96_1) ?_
    refine wl (ro_loadB rfl sc_3 (hB) (cel_get' (by omega) V.i1)) ?_
    refine wl (ro_assign rfl) ?_
    refine wl_nil (x_then (hK2 _ _ ?_))
    clear hK2 K2
    refine c_seq (fun K3 hK3 => ?_)
    refine c_seq (fun K4 hK4 => ?_)
    refine c_reg ?_ -- region 2 class.go:80
    refine wl (ro_move rfl) ?_
    refine wl (ro_arith rfl rfl rfl (Go.IntWalk.i64_in _ (by omega))) ?_
    refine wl (ro_move rfl) ?_
    refine wl (ro_nilCheck rfl) ?_
    refine wl (ro_fieldAddr (k := 0) rfl fo_96_0) ?_
    refine wl (ro_loadB rfl sc_9 (hB) (cel_get' (by omega) V.p0)) ?_
    refine wl (ro_lenS rfl st_9) ?_
    refine wl (ro_cmp (r := true) rfl rfl (congrArg some (decide_eq_true (by omega)))) ?_
    refine wl_nil (x_then (hK4 _ _ ?_))
    clear hK4 K4
    refine wc_condT rfl ?_
    refine c_seq (fun K5 hK5 => ?_)
    refine c_reg ?_ -- region 3 class.go:81
    refine wl (ro_move rfl) ?_
    refine wl (ro_move rfl) ?_
    refine wl_call rfl en_97 (fail97 hB) ?_
    rintro _ w9 ⟨rfl, hB, F9⟩
    replace hF := hF.trans F9
    replace hM := F9.blkO hM (by omega)
    refine wl_nil (x_then (hK5 _ _ ?_))
    clear hK5 K5
    refine forget [(2, _)] ⟨rfl, trivial⟩ (fun e => ?_)
    refine c_seq (fun K6 hK6 => ?_)
    refine c_reg ?_ -- region 4 class.go:82
    refine wl (ro_build rfl bld_87) ?_
    rw [zeroS]
    refine wl_puta rfl rfl (by simp [Value.oneCell', i64c, u64c, u8c, ptr]) sz_87 (rfl) hM ((by simp)) (rfl) (fun w2 hM F2 => ?_)
    replace hF := hF.thenDrew.thenO F2 (by first | exact .inr (by omega) | exact .inl rfl | exact .inl (by assumption))
    replace hB := F2.blkO hB (by omega)
    refine wl (ro_assign rfl) ?_
    refine wl (ro_assign rfl) ?_
    refine wl_nil (x_then (hK6 _ _ ?_))
    clear hK6 K6
    refine c_ret (x_thenR ?_)
    refine bq_ret (res3 Tryz.results126 (rv_c rfl ag_87 (hM) rfl) (rv_t rfl) (rv_t rfl)) ?_
    exact ⟨EP.er (i := σ.i) hB (err97 V) rfl, hF⟩
  | some c =>
    have hlt := get_lt hc
    have hcb : c.toNat < 256 := c.toBitVec.isLt
    have V2 : PV (pt f 1 (i64c (σ.i + 2))) p { σ with i := σ.i + 2 } T := V.setI (i := σ.i + 2) (by omega)
    simp only
    cases hn : namedS c with
    | some Z =>
      rw [escB_named hn]
      simp only
      refine ret_of Tryz.func126 rfl Tryz.ntmps126 rfl ?_
      refine c_seq (fun K1 hK1 => ?_)
      refine c_reg ?_ -- region 0 class.go:78
      refine wl_new (ze_87) (fun mb w1 hbmb hM F1 => ?_)
      have hbsmb := Nat.le_trans hF.size hbmb
      have hnexbmb : xb < mb := Nat.lt_of_lt_of_le hB.lt hbmb
      replace hF := hF.thenDrew.thenN F1
      replace hB := F1.blkN hB
      refine wl (ro_assign rfl) ?_
      refine wl (ro_assign rfl) ?_
      refine wl_nil (x_then (hK1 _ _ ?_))
      clear hK1 K1
      refine forget [(0, _), (2, _)] ⟨rfl, rfl, trivial⟩ (fun e => ?_)
      refine c_seq (fun K2 hK2 => ?_)
      refine c_reg ?_ -- region 1 class.go:79
      refine wl (ro_move rfl) ?_
      refine wl (ro_nilCheck rfl) ?_
      refine wl (ro_fieldAddr (k := 1) rfl fo_96_1) ?_
      refine wl (ro_loadB rfl sc_3 (hB) (cel_get' (by omega) V.i1)) ?_
      refine wl (ro_assign rfl) ?_
      refine wl_nil (x_then (hK2 _ _ ?_))
      clear hK2 K2
      refine c_seq (fun K3 hK3 => ?_)
      refine c_seq (fun K4 hK4 => ?_)
      refine c_reg ?_ -- region 2 class.go:80
      refine wl (ro_move rfl) ?_
      refine wl (ro_arith rfl rfl rfl (Go.IntWalk.i64_in _ (by omega))) ?_
      refine wl (ro_move rfl) ?_
      refine wl (ro_nilCheck rfl) ?_
      refine wl (ro_fieldAddr (k := 0) rfl fo_96_0) ?_
      refine wl (ro_loadB rfl sc_9 (hB) (cel_get' (by omega) V.p0)) ?_
      refine wl (ro_lenS rfl st_9) ?_
      refine wl (ro_cmp (r := false) rfl rfl (congrArg some (decide_eq_false (by omega)))) ?_
      refine wl_nil (x_then (hK4 _ _ ?_))
      clear hK4 K4
      refine wc_condF rfl ?_
      refine c_skip (x_then (hK3 _ _ ?_))
      clear hK3 K3
      refine forget [(0, _), (2, _), (5, _)] ⟨rfl, rfl, rfl, trivial⟩ (fun e => ?_)
      refine c_seq (fun K5 hK5 => ?_)
      refine c_reg ?_ -- region 5 class.go:84
      refine wl (ro_move rfl) ?_
      refine wl (ro_nilCheck rfl) ?_
      refine wl (ro_fieldAddr (k := 0) rfl fo_96_0) ?_
      refine wl (ro_loadB rfl sc_9 (hB) (cel_get' (by omega) V.p0)) ?_
      refine wl (ro_move rfl) ?_
      refine wl (ro_arith rfl rfl rfl (Go.IntWalk.i64_in _ (by omega))) ?_
      refine wl (ro_indexS rfl rfl st_9 ((show _ = ((σ.i + 1 : Nat) : Int) by omega)) (hc)) ?_
      refine wl (ro_assign rfl) ?_
      refine wl_nil (x_then (hK5 _ _ ?_))
      clear hK5 K5
      refine forget [(0, _), (2, _), (5, _), (6, _)] ⟨rfl, rfl, rfl, rfl, trivial⟩ (fun e => ?_)
      refine c_seq (fun K6 hK6 => ?_)
      refine c_reg ?_ -- region 6 class.go:85
      refine wl (ro_move rfl) ?_
      refine wl (ro_move rfl) ?_
      refine wl (ro_arith rfl rfl rfl (Go.IntWalk.i64_in _ (by omega))) ?_
      refine wl (ro_nilCheck rfl) ?_
      refine wl (ro_fieldAddr (k := 1) rfl fo_96_1) ?_
      refine wl_put rfl rfl rfl sz_3 hB ((cel_lt (by omega))) ((cel_put 1 (by omega))) (fun w2 hB F2 => ?_)
      replace hF := hF.thenDrew.thenO F2 (by first | exact .inr (by omega) | exact .inl rfl | exact .inl (by assumption))
      replace hM := F2.blkO hM (by omega)
      refine wl_nil (x_then (hK6 _ _ ?_))
      clear hK6 K6
      refine forget [(0, _), (2, _), (5, _), (6, _)] ⟨rfl, rfl, rfl, rfl, trivial⟩ (fun e => ?_)
      refine c_seq (fun K7 hK7 => ?_)
      refine c_reg ?_ -- region 7 class.go:86
      refine wl (ro_move rfl) ?_
      refine wl_call rfl en_141 (named141) ?_
      rintro _ w3 ⟨rfl, F3⟩
      replace hF := hF.thenDrew.thenN F3
      replace hB := F3.blkN hB
      replace hM := F3.blkN hM
      refine wl (ro_move rfl) ?_
      refine wl (ro_extract rfl rfl) ?_
      refine wl (ro_extract rfl rfl) ?_
      rw [hn]
      refine wl_new (ze_87) (fun ab w4 hbab hA F4 => ?_)
      have hbsab := Nat.le_trans hF.size hbab
      have hnexbab : xb < ab := Nat.lt_of_lt_of_le hB.lt hbab
      have hnembab : mb < ab := Nat.lt_of_lt_of_le hM.lt hbab
      replace hF := hF.thenDrew.thenN F4
      replace hB := F4.blkN hB
      replace hM := F4.blkN hM
      refine wl_puta rfl rfl (by simp [Value.oneCell', i64c, u64c, u8c, ptr]) sz_87 (rfl) hA ((by simp)) (rfl) (fun w5 hA F5 => ?_)
      replace hF := hF.thenDrew.thenO F5 (by first | exact .inr (by omega) | exact .inl rfl | exact .inl (by assumption))
      replace hB := F5.blkO hB (by omega)
      replace hM := F5.blkO hM (by omega)
      refine wl (ro_assign rfl) ?_
      refine wl_nil (x_then (hK7 _ _ ?_))
      clear hK7 K7
      refine c_seq (fun K8 hK8 => ?_)
      refine c_seq (fun K9 hK9 => ?_)
      refine c_reg ?_ -- region 8 class.go:87
      refine wl (ro_move rfl) ?_
      refine wl_nil (x_then (hK9 _ _ ?_))
      clear hK9 K9
      refine wc_condT rfl ?_
      refine c_seq (fun K10 hK10 => ?_)
      refine c_reg ?_ -- region 9 class.go:88
      refine wl (ro_loadAggB rfl ag_87 (hA) rfl rfl) ?_
      refine wl_puta rfl rfl (by simp [Value.oneCell', i64c, u64c, u8c, ptr]) sz_87 (rfl) hM ((by simp)) (rfl) (fun w6 hM F6 => ?_)
      replace hF := hF.thenDrew.thenO F6 (by first | exact .inr (by omega) | exact .inl rfl | exact .inl (by assumption))
      replace hB := F6.blkO hB (by omega)
      replace hA := F6.blkO hA (by omega)
      refine wl (ro_assign rfl) ?_
      refine wl (ro_assign rfl) ?_
      refine wl_nil (x_then (hK10 _ _ ?_))
      clear hK10 K10
      refine c_ret (x_thenR ?_)
      refine bq_ret (res3 Tryz.results126 (rv_c rfl ag_87 (hM) rfl) (rv_t rfl) (rv_t rfl)) ?_
      exact ⟨EP.ok (b := 0) (j := σ.i + 2) hB V2 rfl, hF⟩
    | none =>
      by_cases h110 : c = 110
      · subst h110
        rw [show escB 110 p[σ.i + 2]? p[σ.i + 3]? = some (rng 10 10, true, 10, 2) from rfl]
        simp only
        refine ret_of Tryz.func126 rfl Tryz.ntmps126 rfl ?_
        refine c_seq (fun K1 hK1 => ?_)
        refine c_reg ?_ -- region 0 class.go:78
        refine wl_new (ze_87) (fun mb w1 hbmb hM F1 => ?_)
        have hbsmb := Nat.le_trans hF.size hbmb
        have hnexbmb : xb < mb := Nat.lt_of_lt_of_le hB.lt hbmb
        replace hF := hF.thenDrew.thenN F1
        replace hB := F1.blkN hB
        refine wl (ro_assign rfl) ?_
        refine wl (ro_assign rfl) ?_
        refine wl_nil (x_then (hK1 _ _ ?_))
        clear hK1 K1
        refine forget [(0, _), (2, _)] ⟨rfl, rfl, trivial⟩ (fun e => ?_)
        refine c_seq (fun K2 hK2 => ?_)
        refine c_reg ?_ -- region 1 class.go:79
        refine wl (ro_move rfl) ?_
        refine wl (ro_nilCheck rfl) ?_
        refine wl (ro_fieldAddr (k := 1) rfl fo_96_1) ?_
        refine wl (ro_loadB rfl sc_3 (hB) (cel_get' (by omega) V.i1)) ?_
        refine wl (ro_assign rfl) ?_
        refine wl_nil (x_then (hK2 _ _ ?_))
        clear hK2 K2
        refine c_seq (fun K3 hK3 => ?_)
        refine c_seq (fun K4 hK4 => ?_)
        refine c_reg ?_ -- region 2 class.go:80
        refine wl (ro_move rfl) ?_
        refine wl (ro_arith rfl rfl rfl (Go.IntWalk.i64_in _ (by omega))) ?_
        refine wl (ro_move rfl) ?_
        refine wl (ro_nilCheck rfl) ?_
        refine wl (ro_fieldAddr (k := 0) rfl fo_96_0) ?_
        refine wl (ro_loadB rfl sc_9 (hB) (cel_get' (by omega) V.p0)) ?_
        refine wl (ro_lenS rfl st_9) ?_
        refine wl (ro_cmp (r := false) rfl rfl (congrArg some (decide_eq_false (by omega)))) ?_
        refine wl_nil (x_then (hK4 _ _ ?_))
        clear hK4 K4
        refine wc_condF rfl ?_
        refine c_skip (x_then (hK3 _ _ ?_))
        clear hK3 K3
        refine forget [(0, _), (2, _), (5, _)] ⟨rfl, rfl, rfl, trivial⟩ (fun e => ?_)
        refine c_seq (fun K5 hK5 => ?_)
        refine c_reg ?_ -- region 5 class.go:84
        refine wl (ro_move rfl) ?_
        refine wl (ro_nilCheck rfl) ?_
        refine wl (ro_fieldAddr (k := 0) rfl fo_96_0) ?_
        refine wl (ro_loadB rfl sc_9 (hB) (cel_get' (by omega) V.p0)) ?_
        refine wl (ro_move rfl) ?_
        refine wl (ro_arith rfl rfl rfl (Go.IntWalk.i64_in _ (by omega))) ?_
        refine wl (ro_indexS rfl rfl st_9 ((show _ = ((σ.i + 1 : Nat) : Int) by omega)) (hc)) ?_
        refine wl (ro_assign rfl) ?_
        refine wl_nil (x_then (hK5 _ _ ?_))
        clear hK5 K5
        refine forget [(0, _), (2, _), (5, _), (6, _)] ⟨rfl, rfl, rfl, rfl, trivial⟩ (fun e => ?_)
        refine c_seq (fun K6 hK6 => ?_)
        refine c_reg ?_ -- region 6 class.go:85
        refine wl (ro_move rfl) ?_
        refine wl (ro_move rfl) ?_
        refine wl (ro_arith rfl rfl rfl (Go.IntWalk.i64_in _ (by omega))) ?_
        refine wl (ro_nilCheck rfl) ?_
        refine wl (ro_fieldAddr (k := 1) rfl fo_96_1) ?_
        refine wl_put rfl rfl rfl sz_3 hB ((cel_lt (by omega))) ((cel_put 1 (by omega))) (fun w2 hB F2 => ?_)
        replace hF := hF.thenDrew.thenO F2 (by first | exact .inr (by omega) | exact .inl rfl | exact .inl (by assumption))
        replace hM := F2.blkO hM (by omega)
        refine wl_nil (x_then (hK6 _ _ ?_))
        clear hK6 K6
        refine forget [(0, _), (2, _), (5, _), (6, _)] ⟨rfl, rfl, rfl, rfl, trivial⟩ (fun e => ?_)
        refine c_seq (fun K7 hK7 => ?_)
        refine c_reg ?_ -- region 7 class.go:86
        refine wl (ro_move rfl) ?_
        refine wl_call rfl en_141 (named141) ?_
        rintro _ w3 ⟨rfl, F3⟩
        replace hF := hF.thenDrew.thenN F3
        replace hB := F3.blkN hB
        replace hM := F3.blkN hM
        refine wl (ro_move rfl) ?_
        refine wl (ro_extract rfl rfl) ?_
        refine wl (ro_extract rfl rfl) ?_
        rw [hn]
        refine wl_new (ze_87) (fun ab w4 hbab hA F4 => ?_)
        have hbsab := Nat.le_trans hF.size hbab
        have hnexbab : xb < ab := Nat.lt_of_lt_of_le hB.lt hbab
        have hnembab : mb < ab := Nat.lt_of_lt_of_le hM.lt hbab
        replace hF := hF.thenDrew.thenN F4
        replace hB := F4.blkN hB
        replace hM := F4.blkN hM
        refine wl_puta rfl rfl (by simp [Value.oneCell', i64c, u64c, u8c, ptr]) sz_87 (rfl) hA ((by simp)) (rfl) (fun w5 hA F5 => ?_)
        replace hF := hF.thenDrew.thenO F5 (by first | exact .inr (by omega) | exact .inl rfl | exact .inl (by assumption))
        replace hB := F5.blkO hB (by omega)
        replace hM := F5.blkO hM (by omega)
        refine wl (ro_assign rfl) ?_
        refine wl_nil (x_then (hK7 _ _ ?_))
        clear hK7 K7
        refine c_seq (fun K8 hK8 => ?_)
        refine c_seq (fun K9 hK9 => ?_)
        refine c_reg ?_ -- region 8 class.go:87
        refine wl (ro_move rfl) ?_
        refine wl_nil (x_then (hK9 _ _ ?_))
        clear hK9 K9
        refine wc_condF rfl ?_
        refine c_skip (x_then (hK8 _ _ ?_))
        clear hK8 K8
        refine forget [(0, _), (2, _), (5, _), (6, _)] ⟨rfl, rfl, rfl, rfl, trivial⟩ (fun e => ?_)
        refine c_seq (fun K10 hK10 => ?_)
        refine c_reg ?_ -- region 10 class.go:90
        refine wl (ro_move rfl) ?_
        refine wl (ro_assign rfl) ?_
        refine wl_nil (x_then (hK10 _ _ ?_))
        clear hK10 K10
        refine c_seq (fun K11 hK11 => ?_)
        refine c_seq (fun K12 hK12 => ?_)
        refine c_reg ?_ -- region 11 class.go:91
        refine wl (ro_move rfl) ?_
        refine wl_nil (x_then (hK12 _ _ ?_))
        clear hK12 K12
        refine c_block ?_
        refine forget [(0, _), (2, _), (5, _), (6, _), (9, _), (48, _)] ⟨rfl, rfl, rfl, rfl, rfl, rfl, trivial⟩ (fun e => ?_)
        refine c_seq (fun K13 hK13 => ?_)
        refine c_reg ?_ -- region 15 class.go:92
        refine wl (ro_cmp rfl rfl rfl) ?_
        refine wl (ro_assign rfl) ?_
        refine wl_nil (x_then (hK13 _ _ ?_))
        clear hK13 K13
        refine wc_condT rfl ?_
        refine c_reg ?_ -- region 16 class.go:93
        refine wl (ro_assign rfl) ?_
        refine wl_nil (x_blk (x_then (hK11 _ _ ?_)))
        clear hK11 K11
        refine forget [(2, _), (9, _)] ⟨rfl, rfl, trivial⟩ (fun e => ?_)
        refine c_seq (fun K14 hK14 => ?_)
        refine c_reg ?_ -- region 31 class.go:116
        refine wl (ro_move rfl) ?_
        refine wl (ro_move rfl) ?_
        refine wl_call rfl en_128 (between128 (lo := 10) (hi := 10)) ?_
        rintro _ w6 ⟨rfl, F6⟩
        rw [show UInt8.toNat 10 = 10 from rfl]
        replace hF := hF.thenDrew.thenN F6
        replace hB := F6.blkN hB
        replace hM := F6.blkN hM
        replace hA := F6.blkN hA
        refine wl (ro_move rfl) ?_
        refine wl_puta rfl rfl (by simp [Value.oneCell', i64c, u64c, u8c, ptr]) sz_87 (rfl) hM ((by simp)) (rfl) (fun w7 hM F7 => ?_)
        replace hF := hF.thenDrew.thenO F7 (by first | exact .inr (by omega) | exact .inl rfl | exact .inl (by assumption))
        replace hB := F7.blkO hB (by omega)
        replace hA := F7.blkO hA (by omega)
        refine wl (ro_assign rfl) ?_
        refine wl (ro_assign rfl) ?_
        refine wl_nil (x_then (hK14 _ _ ?_))
        clear hK14 K14
        refine c_ret ?_
        refine bq_ret (res3 Tryz.results126 (rv_c rfl ag_87 (hM) rfl) (rv_t rfl) (rv_t rfl)) ?_
        exact ⟨EP.ok (b := 10) (j := σ.i + 2) hB V2 rfl, hF⟩
      by_cases h116 : c = 116
      · subst h116
        rw [show escB 116 p[σ.i + 2]? p[σ.i + 3]? = some (rng 9 9, true, 9, 2) from rfl]
        simp only
        refine ret_of Tryz.func126 rfl Tryz.ntmps126 rfl ?_
        refine c_seq (fun K1 hK1 => ?_)
        refine c_reg ?_ -- region 0 class.go:78
        refine wl_new (ze_87) (fun mb w1 hbmb hM F1 => ?_)
        have hbsmb := Nat.le_trans hF.size hbmb
        have hnexbmb : xb < mb := Nat.lt_of_lt_of_le hB.lt hbmb
        replace hF := hF.thenDrew.thenN F1
        replace hB := F1.blkN hB
        refine wl (ro_assign rfl) ?_
        refine wl (ro_assign rfl) ?_
        refine wl_nil (x_then (hK1 _ _ ?_))
        clear hK1 K1
        refine forget [(0, _), (2, _)] ⟨rfl, rfl, trivial⟩ (fun e => ?_)
        refine c_seq (fun K2 hK2 => ?_)
        refine c_reg ?_ -- region 1 class.go:79
        refine wl (ro_move rfl) ?_
        refine wl (ro_nilCheck rfl) ?_
        refine wl (ro_fieldAddr (k := 1) rfl fo_96_1) ?_
        refine wl (ro_loadB rfl sc_3 (hB) (cel_get' (by omega) V.i1)) ?_
        refine wl (ro_assign rfl) ?_
        refine wl_nil (x_then (hK2 _ _ ?_))
        clear hK2 K2
        refine c_seq (fun K3 hK3 => ?_)
        refine c_seq (fun K4 hK4 => ?_)
        refine c_reg ?_ -- region 2 class.go:80
        refine wl (ro_move rfl) ?_
        refine wl (ro_arith rfl rfl rfl (Go.IntWalk.i64_in _ (by omega))) ?_
        refine wl (ro_move rfl) ?_
        refine wl (ro_nilCheck rfl) ?_
        refine wl (ro_fieldAddr (k := 0) rfl fo_96_0) ?_
        refine wl (ro_loadB rfl sc_9 (hB) (cel_get' (by omega) V.p0)) ?_
        refine wl (ro_lenS rfl st_9) ?_
        refine wl (ro_cmp (r := false) rfl rfl (congrArg some (decide_eq_false (by omega)))) ?_
        refine wl_nil (x_then (hK4 _ _ ?_))
        clear hK4 K4
        refine wc_condF rfl ?_
        refine c_skip (x_then (hK3 _ _ ?_))
        clear hK3 K3
        refine forget [(0, _), (2, _), (5, _)] ⟨rfl, rfl, rfl, trivial⟩ (fun e => ?_)
        refine c_seq (fun K5 hK5 => ?_)
        refine c_reg ?_ -- region 5 class.go:84
        refine wl (ro_move rfl) ?_
        refine wl (ro_nilCheck rfl) ?_
        refine wl (ro_fieldAddr (k := 0) rfl fo_96_0) ?_
        refine wl (ro_loadB rfl sc_9 (hB) (cel_get' (by omega) V.p0)) ?_
        refine wl (ro_move rfl) ?_
        refine wl (ro_arith rfl rfl rfl (Go.IntWalk.i64_in _ (by omega))) ?_
        refine wl (ro_indexS rfl rfl st_9 ((show _ = ((σ.i + 1 : Nat) : Int) by omega)) (hc)) ?_
        refine wl (ro_assign rfl) ?_
        refine wl_nil (x_then (hK5 _ _ ?_))
        clear hK5 K5
        refine forget [(0, _), (2, _), (5, _), (6, _)] ⟨rfl, rfl, rfl, rfl, trivial⟩ (fun e => ?_)
        refine c_seq (fun K6 hK6 => ?_)
        refine c_reg ?_ -- region 6 class.go:85
        refine wl (ro_move rfl) ?_
        refine wl (ro_move rfl) ?_
        refine wl (ro_arith rfl rfl rfl (Go.IntWalk.i64_in _ (by omega))) ?_
        refine wl (ro_nilCheck rfl) ?_
        refine wl (ro_fieldAddr (k := 1) rfl fo_96_1) ?_
        refine wl_put rfl rfl rfl sz_3 hB ((cel_lt (by omega))) ((cel_put 1 (by omega))) (fun w2 hB F2 => ?_)
        replace hF := hF.thenDrew.thenO F2 (by first | exact .inr (by omega) | exact .inl rfl | exact .inl (by assumption))
        replace hM := F2.blkO hM (by omega)
        refine wl_nil (x_then (hK6 _ _ ?_))
        clear hK6 K6
        refine forget [(0, _), (2, _), (5, _), (6, _)] ⟨rfl, rfl, rfl, rfl, trivial⟩ (fun e => ?_)
        refine c_seq (fun K7 hK7 => ?_)
        refine c_reg ?_ -- region 7 class.go:86
        refine wl (ro_move rfl) ?_
        refine wl_call rfl en_141 (named141) ?_
        rintro _ w3 ⟨rfl, F3⟩
        replace hF := hF.thenDrew.thenN F3
        replace hB := F3.blkN hB
        replace hM := F3.blkN hM
        refine wl (ro_move rfl) ?_
        refine wl (ro_extract rfl rfl) ?_
        refine wl (ro_extract rfl rfl) ?_
        rw [hn]
        refine wl_new (ze_87) (fun ab w4 hbab hA F4 => ?_)
        have hbsab := Nat.le_trans hF.size hbab
        have hnexbab : xb < ab := Nat.lt_of_lt_of_le hB.lt hbab
        have hnembab : mb < ab := Nat.lt_of_lt_of_le hM.lt hbab
        replace hF := hF.thenDrew.thenN F4
        replace hB := F4.blkN hB
        replace hM := F4.blkN hM
        refine wl_puta rfl rfl (by simp [Value.oneCell', i64c, u64c, u8c, ptr]) sz_87 (rfl) hA ((by simp)) (rfl) (fun w5 hA F5 => ?_)
        replace hF := hF.thenDrew.thenO F5 (by first | exact .inr (by omega) | exact .inl rfl | exact .inl (by assumption))
        replace hB := F5.blkO hB (by omega)
        replace hM := F5.blkO hM (by omega)
        refine wl (ro_assign rfl) ?_
        refine wl_nil (x_then (hK7 _ _ ?_))
        clear hK7 K7
        refine c_seq (fun K8 hK8 => ?_)
        refine c_seq (fun K9 hK9 => ?_)
        refine c_reg ?_ -- region 8 class.go:87
        refine wl (ro_move rfl) ?_
        refine wl_nil (x_then (hK9 _ _ ?_))
        clear hK9 K9
        refine wc_condF rfl ?_
        refine c_skip (x_then (hK8 _ _ ?_))
        clear hK8 K8
        refine forget [(0, _), (2, _), (5, _), (6, _)] ⟨rfl, rfl, rfl, rfl, trivial⟩ (fun e => ?_)
        refine c_seq (fun K10 hK10 => ?_)
        refine c_reg ?_ -- region 10 class.go:90
        refine wl (ro_move rfl) ?_
        refine wl (ro_assign rfl) ?_
        refine wl_nil (x_then (hK10 _ _ ?_))
        clear hK10 K10
        refine c_seq (fun K11 hK11 => ?_)
        refine c_seq (fun K12 hK12 => ?_)
        refine c_reg ?_ -- region 11 class.go:91
        refine wl (ro_move rfl) ?_
        refine wl_nil (x_then (hK12 _ _ ?_))
        clear hK12 K12
        refine c_block ?_
        refine forget [(0, _), (2, _), (5, _), (6, _), (9, _), (48, _)] ⟨rfl, rfl, rfl, rfl, rfl, rfl, trivial⟩ (fun e => ?_)
        refine c_seq (fun K13 hK13 => ?_)
        refine c_reg ?_ -- region 15 class.go:92
        refine wl (ro_cmp rfl rfl rfl) ?_
        refine wl (ro_assign rfl) ?_
        refine wl_nil (x_then (hK13 _ _ ?_))
        clear hK13 K13
        refine wc_condF rfl ?_
        refine c_seq (fun K14 hK14 => ?_)
        refine c_reg ?_ -- region 17 class.go:94
        refine wl (ro_cmp rfl rfl rfl) ?_
        refine wl (ro_assign rfl) ?_
        refine wl_nil (x_then (hK14 _ _ ?_))
        clear hK14 K14
        refine wc_condT rfl ?_
        refine c_reg ?_ -- region 18 class.go:95
        refine wl (ro_assign rfl) ?_
        refine wl_nil (x_blk (x_then (hK11 _ _ ?_)))
        clear hK11 K11
        refine forget [(2, _), (9, _)] ⟨rfl, rfl, trivial⟩ (fun e => ?_)
        refine c_seq (fun K15 hK15 => ?_)
        refine c_reg ?_ -- region 31 class.go:116
        refine wl (ro_move rfl) ?_
        refine wl (ro_move rfl) ?_
        refine wl_call rfl en_128 (between128 (lo := 9) (hi := 9)) ?_
        rintro _ w6 ⟨rfl, F6⟩
        rw [show UInt8.toNat 9 = 9 from rfl]
        replace hF := hF.thenDrew.thenN F6
        replace hB := F6.blkN hB
        replace hM := F6.blkN hM
        replace hA := F6.blkN hA
        refine wl (ro_move rfl) ?_
        refine wl_puta rfl rfl (by simp [Value.oneCell', i64c, u64c, u8c, ptr]) sz_87 (rfl) hM ((by simp)) (rfl) (fun w7 hM F7 => ?_)
        replace hF := hF.thenDrew.thenO F7 (by first | exact .inr (by omega) | exact .inl rfl | exact .inl (by assumption))
        replace hB := F7.blkO hB (by omega)
        replace hA := F7.blkO hA (by omega)
        refine wl (ro_assign rfl) ?_
        refine wl (ro_assign rfl) ?_
        refine wl_nil (x_then (hK15 _ _ ?_))
        clear hK15 K15
        refine c_ret ?_
        refine bq_ret (res3 Tryz.results126 (rv_c rfl ag_87 (hM) rfl) (rv_t rfl) (rv_t rfl)) ?_
        exact ⟨EP.ok (b := 9) (j := σ.i + 2) hB V2 rfl, hF⟩
      by_cases h114 : c = 114
      · subst h114
        rw [show escB 114 p[σ.i + 2]? p[σ.i + 3]? = some (rng 13 13, true, 13, 2) from rfl]
        simp only
        refine ret_of Tryz.func126 rfl Tryz.ntmps126 rfl ?_
        refine c_seq (fun K1 hK1 => ?_)
        refine c_reg ?_ -- region 0 class.go:78
        refine wl_new (ze_87) (fun mb w1 hbmb hM F1 => ?_)
        have hbsmb := Nat.le_trans hF.size hbmb
        have hnexbmb : xb < mb := Nat.lt_of_lt_of_le hB.lt hbmb
        replace hF := hF.thenDrew.thenN F1
        replace hB := F1.blkN hB
        refine wl (ro_assign rfl) ?_
        refine wl (ro_assign rfl) ?_
        refine wl_nil (x_then (hK1 _ _ ?_))
        clear hK1 K1
        refine forget [(0, _), (2, _)] ⟨rfl, rfl, trivial⟩ (fun e => ?_)
        refine c_seq (fun K2 hK2 => ?_)
        refine c_reg ?_ -- region 1 class.go:79
        refine wl (ro_move rfl) ?_
        refine wl (ro_nilCheck rfl) ?_
        refine wl (ro_fieldAddr (k := 1) rfl fo_96_1) ?_
        refine wl (ro_loadB rfl sc_3 (hB) (cel_get' (by omega) V.i1)) ?_
        refine wl (ro_assign rfl) ?_
        refine wl_nil (x_then (hK2 _ _ ?_))
        clear hK2 K2
        refine c_seq (fun K3 hK3 => ?_)
        refine c_seq (fun K4 hK4 => ?_)
        refine c_reg ?_ -- region 2 class.go:80
        refine wl (ro_move rfl) ?_
        refine wl (ro_arith rfl rfl rfl (Go.IntWalk.i64_in _ (by omega))) ?_
        refine wl (ro_move rfl) ?_
        refine wl (ro_nilCheck rfl) ?_
        refine wl (ro_fieldAddr (k := 0) rfl fo_96_0) ?_
        refine wl (ro_loadB rfl sc_9 (hB) (cel_get' (by omega) V.p0)) ?_
        refine wl (ro_lenS rfl st_9) ?_
        refine wl (ro_cmp (r := false) rfl rfl (congrArg some (decide_eq_false (by omega)))) ?_
        refine wl_nil (x_then (hK4 _ _ ?_))
        clear hK4 K4
        refine wc_condF rfl ?_
        refine c_skip (x_then (hK3 _ _ ?_))
        clear hK3 K3
        refine forget [(0, _), (2, _), (5, _)] ⟨rfl, rfl, rfl, trivial⟩ (fun e => ?_)
        refine c_seq (fun K5 hK5 => ?_)
        refine c_reg ?_ -- region 5 class.go:84
        refine wl (ro_move rfl) ?_
        refine wl (ro_nilCheck rfl) ?_
        refine wl (ro_fieldAddr (k := 0) rfl fo_96_0) ?_
        refine wl (ro_loadB rfl sc_9 (hB) (cel_get' (by omega) V.p0)) ?_
        refine wl (ro_move rfl) ?_
        refine wl (ro_arith rfl rfl rfl (Go.IntWalk.i64_in _ (by omega))) ?_
        refine wl (ro_indexS rfl rfl st_9 ((show _ = ((σ.i + 1 : Nat) : Int) by omega)) (hc)) ?_
        refine wl (ro_assign rfl) ?_
        refine wl_nil (x_then (hK5 _ _ ?_))
        clear hK5 K5
        refine forget [(0, _), (2, _), (5, _), (6, _)] ⟨rfl, rfl, rfl, rfl, trivial⟩ (fun e => ?_)
        refine c_seq (fun K6 hK6 => ?_)
        refine c_reg ?_ -- region 6 class.go:85
        refine wl (ro_move rfl) ?_
        refine wl (ro_move rfl) ?_
        refine wl (ro_arith rfl rfl rfl (Go.IntWalk.i64_in _ (by omega))) ?_
        refine wl (ro_nilCheck rfl) ?_
        refine wl (ro_fieldAddr (k := 1) rfl fo_96_1) ?_
        refine wl_put rfl rfl rfl sz_3 hB ((cel_lt (by omega))) ((cel_put 1 (by omega))) (fun w2 hB F2 => ?_)
        replace hF := hF.thenDrew.thenO F2 (by first | exact .inr (by omega) | exact .inl rfl | exact .inl (by assumption))
        replace hM := F2.blkO hM (by omega)
        refine wl_nil (x_then (hK6 _ _ ?_))
        clear hK6 K6
        refine forget [(0, _), (2, _), (5, _), (6, _)] ⟨rfl, rfl, rfl, rfl, trivial⟩ (fun e => ?_)
        refine c_seq (fun K7 hK7 => ?_)
        refine c_reg ?_ -- region 7 class.go:86
        refine wl (ro_move rfl) ?_
        refine wl_call rfl en_141 (named141) ?_
        rintro _ w3 ⟨rfl, F3⟩
        replace hF := hF.thenDrew.thenN F3
        replace hB := F3.blkN hB
        replace hM := F3.blkN hM
        refine wl (ro_move rfl) ?_
        refine wl (ro_extract rfl rfl) ?_
        refine wl (ro_extract rfl rfl) ?_
        rw [hn]
        refine wl_new (ze_87) (fun ab w4 hbab hA F4 => ?_)
        have hbsab := Nat.le_trans hF.size hbab
        have hnexbab : xb < ab := Nat.lt_of_lt_of_le hB.lt hbab
        have hnembab : mb < ab := Nat.lt_of_lt_of_le hM.lt hbab
        replace hF := hF.thenDrew.thenN F4
        replace hB := F4.blkN hB
        replace hM := F4.blkN hM
        refine wl_puta rfl rfl (by simp [Value.oneCell', i64c, u64c, u8c, ptr]) sz_87 (rfl) hA ((by simp)) (rfl) (fun w5 hA F5 => ?_)
        replace hF := hF.thenDrew.thenO F5 (by first | exact .inr (by omega) | exact .inl rfl | exact .inl (by assumption))
        replace hB := F5.blkO hB (by omega)
        replace hM := F5.blkO hM (by omega)
        refine wl (ro_assign rfl) ?_
        refine wl_nil (x_then (hK7 _ _ ?_))
        clear hK7 K7
        refine c_seq (fun K8 hK8 => ?_)
        refine c_seq (fun K9 hK9 => ?_)
        refine c_reg ?_ -- region 8 class.go:87
        refine wl (ro_move rfl) ?_
        refine wl_nil (x_then (hK9 _ _ ?_))
        clear hK9 K9
        refine wc_condF rfl ?_
        refine c_skip (x_then (hK8 _ _ ?_))
        clear hK8 K8
        refine forget [(0, _), (2, _), (5, _), (6, _)] ⟨rfl, rfl, rfl, rfl, trivial⟩ (fun e => ?_)
        refine c_seq (fun K10 hK10 => ?_)
        refine c_reg ?_ -- region 10 class.go:90
        refine wl (ro_move rfl) ?_
        refine wl (ro_assign rfl) ?_
        refine wl_nil (x_then (hK10 _ _ ?_))
        clear hK10 K10
        refine c_seq (fun K11 hK11 => ?_)
        refine c_seq (fun K12 hK12 => ?_)
        refine c_reg ?_ -- region 11 class.go:91
        refine wl (ro_move rfl) ?_
        refine wl_nil (x_then (hK12 _ _ ?_))
        clear hK12 K12
        refine c_block ?_
        refine forget [(0, _), (2, _), (5, _), (6, _), (9, _), (48, _)] ⟨rfl, rfl, rfl, rfl, rfl, rfl, trivial⟩ (fun e => ?_)
        refine c_seq (fun K13 hK13 => ?_)
        refine c_reg ?_ -- region 15 class.go:92
        refine wl (ro_cmp rfl rfl rfl) ?_
        refine wl (ro_assign rfl) ?_
        refine wl_nil (x_then (hK13 _ _ ?_))
        clear hK13 K13
        refine wc_condF rfl ?_
        refine c_seq (fun K14 hK14 => ?_)
        refine c_reg ?_ -- region 17 class.go:94
        refine wl (ro_cmp rfl rfl rfl) ?_
        refine wl (ro_assign rfl) ?_
        refine wl_nil (x_then (hK14 _ _ ?_))
        clear hK14 K14
        refine wc_condF rfl ?_
        refine c_seq (fun K15 hK15 => ?_)
        refine c_reg ?_ -- region 19 class.go:96
        refine wl (ro_cmp rfl rfl rfl) ?_
        refine wl (ro_assign rfl) ?_
        refine wl_nil (x_then (hK15 _ _ ?_))
        clear hK15 K15
        refine wc_condT rfl ?_
        refine c_reg ?_ -- region 20 class.go:97
        refine wl (ro_assign rfl) ?_
        refine wl_nil (x_blk (x_then (hK11 _ _ ?_)))
        clear hK11 K11
        refine forget [(2, _), (9, _)] ⟨rfl, rfl, trivial⟩ (fun e => ?_)
        refine c_seq (fun K16 hK16 => ?_)
        refine c_reg ?_ -- region 31 class.go:116
        refine wl (ro_move rfl) ?_
        refine wl (ro_move rfl) ?_
        refine wl_call rfl en_128 (between128 (lo := 13) (hi := 13)) ?_
        rintro _ w6 ⟨rfl, F6⟩
        rw [show UInt8.toNat 13 = 13 from rfl]
        replace hF := hF.thenDrew.thenN F6
        replace hB := F6.blkN hB
        replace hM := F6.blkN hM
        replace hA := F6.blkN hA
        refine wl (ro_move rfl) ?_
        refine wl_puta rfl rfl (by simp [Value.oneCell', i64c, u64c, u8c, ptr]) sz_87 (rfl) hM ((by simp)) (rfl) (fun w7 hM F7 => ?_)
        replace hF := hF.thenDrew.thenO F7 (by first | exact .inr (by omega) | exact .inl rfl | exact .inl (by assumption))
        replace hB := F7.blkO hB (by omega)
        replace hA := F7.blkO hA (by omega)
        refine wl (ro_assign rfl) ?_
        refine wl (ro_assign rfl) ?_
        refine wl_nil (x_then (hK16 _ _ ?_))
        clear hK16 K16
        refine c_ret ?_
        refine bq_ret (res3 Tryz.results126 (rv_c rfl ag_87 (hM) rfl) (rv_t rfl) (rv_t rfl)) ?_
        exact ⟨EP.ok (b := 13) (j := σ.i + 2) hB V2 rfl, hF⟩
      by_cases h120 : c = 120
      · subst h120
        rw [escB_x]
        by_cases hx3 : σ.i + 3 < p.length
        · obtain ⟨h, hh⟩ : ∃ h, p[σ.i + 2]? = some h := ⟨_, List.getElem?_eq_getElem (by omega)⟩
          obtain ⟨l, hl⟩ : ∃ l, p[σ.i + 3]? = some l := ⟨_, List.getElem?_eq_getElem hx3⟩
          rw [hh, hl]
          simp only
          have hh1 := hexv_ge h
          have hh2 := hexv_lt h
          have hl1 := hexv_ge l
          have hl2 := hexv_lt l
          by_cases q1 : hexv h < 0
          · rw [if_neg (by omega)]
            simp only
            refine ret_of Tryz.func126 rfl Tryz.ntmps126 rfl ?_
            refine c_seq (fun K1 hK1 => ?_)
            refine c_reg ?_ -- region 0 class.go:78
            refine wl_new (ze_87) (fun mb w1 hbmb hM F1 => ?_)
            have hbsmb := Nat.le_trans hF.size hbmb
            have hnexbmb : xb < mb := Nat.lt_of_lt_of_le hB.lt hbmb
            replace hF := hF.thenDrew.thenN F1
            replace hB := F1.blkN hB
            refine wl (ro_assign rfl) ?_
            refine wl (ro_assign rfl) ?_
            refine wl_nil (x_then (hK1 _ _ ?_))
            clear hK1 K1
            refine forget [(0, _), (2, _)] ⟨rfl, rfl, trivial⟩ (fun e => ?_)
            refine c_seq (fun K2 hK2 => ?_)
            refine c_reg ?_ -- region 1 class.go:79
            refine wl (ro_move rfl) ?_
            refine wl (ro_nilCheck rfl) ?_
            refine wl (ro_fieldAddr (k := 1) rfl fo_96_1) ?_
            refine wl (ro_loadB rfl sc_3 (hB) (cel_get' (by omega) V.i1)) ?_
            refine wl (ro_assign rfl) ?_
            refine wl_nil (x_then (hK2 _ _ ?_))
            clear hK2 K2
            refine c_seq (fun K3 hK3 => ?_)
            refine c_seq (fun K4 hK4 => ?_)
            refine c_reg ?_ -- region 2 class.go:80
            refine wl (ro_move rfl) ?_
            refine wl (ro_arith rfl rfl rfl (Go.IntWalk.i64_in _ (by omega))) ?_
            refine wl (ro_move rfl) ?_
            refine wl (ro_nilCheck rfl) ?_
            refine wl (ro_fieldAddr (k := 0) rfl fo_96_0) ?_
            refine wl (ro_loadB rfl sc_9 (hB) (cel_get' (by omega) V.p0)) ?_
            refine wl (ro_lenS rfl st_9) ?_
            refine wl (ro_cmp (r := false) rfl rfl (congrArg some (decide_eq_false (by omega)))) ?_
            refine wl_nil (x_then (hK4 _ _ ?_))
            clear hK4 K4
            refine wc_condF rfl ?_
            refine c_skip (x_then (hK3 _ _ ?_))
            clear hK3 K3
            refine forget [(0, _), (2, _), (5, _)] ⟨rfl, rfl, rfl, trivial⟩ (fun e => ?_)
            refine c_seq (fun K5 hK5 => ?_)
            refine c_reg ?_ -- region 5 class.go:84
            refine wl (ro_move rfl) ?_
            refine wl (ro_nilCheck rfl) ?_
            refine wl (ro_fieldAddr (k := 0) rfl fo_96_0) ?_
            refine wl (ro_loadB rfl sc_9 (hB) (cel_get' (by omega) V.p0)) ?_
            refine wl (ro_move rfl) ?_
            refine wl (ro_arith rfl rfl rfl (Go.IntWalk.i64_in _ (by omega))) ?_
            refine wl (ro_indexS rfl rfl st_9 ((show _ = ((σ.i + 1 : Nat) : Int) by omega)) (hc)) ?_
            refine wl (ro_assign rfl) ?_
            refine wl_nil (x_then (hK5 _ _ ?_))
            clear hK5 K5
            refine forget [(0, _), (2, _), (5, _), (6, _)] ⟨rfl, rfl, rfl, rfl, trivial⟩ (fun e => ?_)
            refine c_seq (fun K6 hK6 => ?_)
            refine c_reg ?_ -- region 6 class.go:85
            refine wl (ro_move rfl) ?_
            refine wl (ro_move rfl) ?_
            refine wl (ro_arith rfl rfl rfl (Go.IntWalk.i64_in _ (by omega))) ?_
            refine wl (ro_nilCheck rfl) ?_
            refine wl (ro_fieldAddr (k := 1) rfl fo_96_1) ?_
            refine wl_put rfl rfl rfl sz_3 hB ((cel_lt (by omega))) ((cel_put 1 (by omega))) (fun w2 hB F2 => ?_)
            replace hF := hF.thenDrew.thenO F2 (by first | exact .inr (by omega) | exact .inl rfl | exact .inl (by assumption))
            replace hM := F2.blkO hM (by omega)
            refine wl_nil (x_then (hK6 _ _ ?_))
            clear hK6 K6
            refine forget [(0, _), (2, _), (5, _), (6, _)] ⟨rfl, rfl, rfl, rfl, trivial⟩ (fun e => ?_)
            refine c_seq (fun K7 hK7 => ?_)
            refine c_reg ?_ -- region 7 class.go:86
            refine wl (ro_move rfl) ?_
            refine wl_call rfl en_141 (named141) ?_
            rintro _ w3 ⟨rfl, F3⟩
            replace hF := hF.thenDrew.thenN F3
            replace hB := F3.blkN hB
            replace hM := F3.blkN hM
            refine wl (ro_move rfl) ?_
            refine wl (ro_extract rfl rfl) ?_
            refine wl (ro_extract rfl rfl) ?_
            rw [hn]
            refine wl_new (ze_87) (fun ab w4 hbab hA F4 => ?_)
            have hbsab := Nat.le_trans hF.size hbab
            have hnexbab : xb < ab := Nat.lt_of_lt_of_le hB.lt hbab
            have hnembab : mb < ab := Nat.lt_of_lt_of_le hM.lt hbab
            replace hF := hF.thenDrew.thenN F4
            replace hB := F4.blkN hB
            replace hM := F4.blkN hM
            refine wl_puta rfl rfl (by simp [Value.oneCell', i64c, u64c, u8c, ptr]) sz_87 (rfl) hA ((by simp)) (rfl) (fun w5 hA F5 => ?_)
            replace hF := hF.thenDrew.thenO F5 (by first | exact .inr (by omega) | exact .inl rfl | exact .inl (by assumption))
            replace hB := F5.blkO hB (by omega)
            replace hM := F5.blkO hM (by omega)
            refine wl (ro_assign rfl) ?_
            refine wl_nil (x_then (hK7 _ _ ?_))
            clear hK7 K7
            refine c_seq (fun K8 hK8 => ?_)
            refine c_seq (fun K9 hK9 => ?_)
            refine c_reg ?_ -- region 8 class.go:87
            refine wl (ro_move rfl) ?_
            refine wl_nil (x_then (hK9 _ _ ?_))
            clear hK9 K9
            refine wc_condF rfl ?_
            refine c_skip (x_then (hK8 _ _ ?_))
            clear hK8 K8
            refine forget [(0, _), (2, _), (5, _), (6, _)] ⟨rfl, rfl, rfl, rfl, trivial⟩ (fun e => ?_)
            refine c_seq (fun K10 hK10 => ?_)
            refine c_reg ?_ -- region 10 class.go:90
            refine wl (ro_move rfl) ?_
            refine wl (ro_assign rfl) ?_
            refine wl_nil (x_then (hK10 _ _ ?_))
            clear hK10 K10
            refine c_seq (fun K11 hK11 => ?_)
            refine c_seq (fun K12 hK12 => ?_)
            refine c_reg ?_ -- region 11 class.go:91
            refine wl (ro_move rfl) ?_
            refine wl_nil (x_then (hK12 _ _ ?_))
            clear hK12 K12
            refine c_block ?_
            refine forget [(0, _), (2, _), (5, _), (6, _), (9, _), (48, _)] ⟨rfl, rfl, rfl, rfl, rfl, rfl, trivial⟩ (fun e => ?_)
            refine c_seq (fun K13 hK13 => ?_)
            refine c_reg ?_ -- region 15 class.go:92
            refine wl (ro_cmp rfl rfl rfl) ?_
            refine wl (ro_assign rfl) ?_
            refine wl_nil (x_then (hK13 _ _ ?_))
            clear hK13 K13
            refine wc_condF rfl ?_
            refine c_seq (fun K14 hK14 => ?_)
            refine c_reg ?_ -- region 17 class.go:94
            refine wl (ro_cmp rfl rfl rfl) ?_
            refine wl (ro_assign rfl) ?_
            refine wl_nil (x_then (hK14 _ _ ?_))
            clear hK14 K14
            refine wc_condF rfl ?_
            refine c_seq (fun K15 hK15 => ?_)
            refine c_reg ?_ -- region 19 class.go:96
            refine wl (ro_cmp rfl rfl rfl) ?_
            refine wl (ro_assign rfl) ?_
            refine wl_nil (x_then (hK15 _ _ ?_))
            clear hK15 K15
            refine wc_condF rfl ?_
            refine c_seq (fun K16 hK16 => ?_)
            refine c_reg ?_ -- region 21 class.go:98
            refine wl (ro_cmp rfl rfl rfl) ?_
            refine wl (ro_assign rfl) ?_
            refine wl_nil (x_then (hK16 _ _ ?_))
            clear hK16 K16
            refine wc_condT rfl ?_
            refine c_seq (fun K17 hK17 => ?_)
            refine c_reg ?_ -- region 22 class.go:99
            refine wl (ro_assign rfl) ?_
            refine wl (ro_assign rfl) ?_
            refine wl_nil (x_then (hK17 _ _ ?_))
            clear hK17 K17
            refine c_seq (fun K18 hK18 => ?_)
            refine c_seq (fun K19 hK19 => ?_)
            refine c_reg ?_ -- region 23 class.go:100
            refine wl (ro_move rfl) ?_
            refine wl (ro_arith rfl rfl rfl (Go.IntWalk.i64_in _ (by omega))) ?_
            refine wl (ro_move rfl) ?_
            refine wl (ro_nilCheck rfl) ?_
            refine wl (ro_fieldAddr (k := 0) rfl fo_96_0) ?_
            refine wl (ro_loadB rfl sc_9 (hB) (cel_get' (by omega) V2.p0)) ?_
            refine wl (ro_lenS rfl st_9) ?_
            refine wl (ro_cmp (r := true) rfl rfl (congrArg some (decide_eq_true (by omega)))) ?_
            refine wl_nil (x_then (hK19 _ _ ?_))
            clear hK19 K19
            refine wc_condT rfl ?_
            refine c_seq (fun K20 hK20 => ?_)
            refine c_reg ?_ -- region 24 class.go:101
            refine wl (ro_move rfl) ?_
            refine wl (ro_nilCheck rfl) ?_
            refine wl (ro_fieldAddr (k := 0) rfl fo_96_0) ?_
            refine wl (ro_loadB rfl sc_9 (hB) (cel_get' (by omega) V2.p0)) ?_
            refine wl (ro_move rfl) ?_
            refine wl (ro_arith rfl rfl rfl (Go.IntWalk.i64_in _ (by omega))) ?_
            refine wl (ro_indexS rfl rfl st_9 ((show _ = ((σ.i + 2 : Nat) : Int) by omega)) (hh)) ?_
            refine wl_call rfl en_142 (nibble142) ?_
            rintro _ _ ⟨rfl, rfl⟩
            refine wl (ro_assign rfl) ?_
            refine wl_nil (x_then (hK20 _ _ ?_))
            clear hK20 K20
            refine c_reg ?_ -- region 25 class.go:102
            refine wl (ro_move rfl) ?_
            refine wl (ro_nilCheck rfl) ?_
            refine wl (ro_fieldAddr (k := 0) rfl fo_96_0) ?_
            refine wl (ro_loadB rfl sc_9 (hB) (cel_get' (by omega) V2.p0)) ?_
            refine wl (ro_move rfl) ?_
            refine wl (ro_arith rfl rfl rfl (Go.IntWalk.i64_in _ (by omega))) ?_
            refine wl (ro_indexS rfl rfl st_9 ((show _ = ((σ.i + 3 : Nat) : Int) by omega)) (hl)) ?_
            refine wl_call rfl en_142 (nibble142) ?_
            rintro _ _ ⟨rfl, rfl⟩
            refine wl (ro_assign rfl) ?_
            refine wl_nil (x_then (hK18 _ _ ?_))
            clear hK18 K18
            refine c_seq (fun K21 hK21 => ?_)
            refine c_seq (fun K22 hK22 => ?_)
            refine c_reg ?_ -- region 26 class.go:104
            refine wl (ro_move rfl) ?_
            refine wl (ro_cmp (r := true) rfl rfl (congrArg some (decide_eq_true q1))) ?_
            refine wl (ro_move rfl) ?_
            refine wlg_no rfl ?_
            refine wlg_no rfl ?_
            refine wl (ro_pick rfl rfl rfl) ?_
            refine wl_nil (x_then (hK22 _ _ ?_))
            clear hK22 K22
            refine wc_condT rfl ?_
            refine c_seq (fun K23 hK23 => ?_)
            refine c_reg ?_ -- region 27 class.go:105
            refine wl (ro_move rfl) ?_
            refine wl (ro_move rfl) ?_
            refine wl_call rfl en_97 (fail97 hB) ?_
            rintro _ w9 ⟨rfl, hB, F9⟩
            replace hF := hF.trans F9
            replace hM := F9.blkO hM (by omega)
            replace hA := F9.blkO hA (by omega)
            refine wl_nil (x_then (hK23 _ _ ?_))
            clear hK23 K23
            refine forget [(2, _)] ⟨rfl, trivial⟩ (fun e => ?_)
            refine c_seq (fun K24 hK24 => ?_)
            refine c_reg ?_ -- region 28 class.go:106
            refine wl (ro_build rfl bld_87) ?_
            rw [zeroS]
            refine wl_puta rfl rfl (by simp [Value.oneCell', i64c, u64c, u8c, ptr]) sz_87 (rfl) hM ((by simp)) (rfl) (fun w6 hM F6 => ?_)
            replace hF := hF.thenDrew.thenO F6 (by first | exact .inr (by omega) | exact .inl rfl | exact .inl (by assumption))
            replace hB := F6.blkO hB (by omega)
            replace hA := F6.blkO hA (by omega)
            refine wl (ro_assign rfl) ?_
            refine wl (ro_assign rfl) ?_
            refine wl_nil (x_then (hK24 _ _ ?_))
            clear hK24 K24
            refine c_ret (x_thenR (x_blkR (x_thenR ?_)))
            refine bq_ret (res3 Tryz.results126 (rv_c rfl ag_87 (hM) rfl) (rv_t rfl) (rv_t rfl)) ?_
            exact ⟨EP.er (i := σ.i) hB (err97 V2) rfl, hF⟩
          · by_cases q2 : hexv l < 0
            · rw [if_neg (by omega)]
              simp only
              refine ret_of Tryz.func126 rfl Tryz.ntmps126 rfl ?_
              refine c_seq (fun K1 hK1 => ?_)
              refine c_reg ?_ -- region 0 class.go:78
              refine wl_new (ze_87) (fun mb w1 hbmb hM F1 => ?_)
              have hbsmb := Nat.le_trans hF.size hbmb
              have hnexbmb : xb < mb := Nat.lt_of_lt_of_le hB.lt hbmb
              replace hF := hF.thenDrew.thenN F1
              replace hB := F1.blkN hB
              refine wl (ro_assign rfl) ?_
              refine wl (ro_assign rfl) ?_
              refine wl_nil (x_then (hK1 _ _ ?_))
              clear hK1 K1
              refine forget [(0, _), (2, _)] ⟨rfl, rfl, trivial⟩ (fun e => ?_)
              refine c_seq (fun K2 hK2 => ?_)
              refine c_reg ?_ -- region 1 class.go:79
              refine wl (ro_move rfl) ?_
              refine wl (ro_nilCheck rfl) ?_
              refine wl (ro_fieldAddr (k := 1) rfl fo_96_1) ?_
              refine wl (ro_loadB rfl sc_3 (hB) (cel_get' (by omega) V.i1)) ?_
              refine wl (ro_assign rfl) ?_
              refine wl_nil (x_then (hK2 _ _ ?_))
              clear hK2 K2
              refine c_seq (fun K3 hK3 => ?_)
              refine c_seq (fun K4 hK4 => ?_)
              refine c_reg ?_ -- region 2 class.go:80
              refine wl (ro_move rfl) ?_
              refine wl (ro_arith rfl rfl rfl (Go.IntWalk.i64_in _ (by omega))) ?_
              refine wl (ro_move rfl) ?_
              refine wl (ro_nilCheck rfl) ?_
              refine wl (ro_fieldAddr (k := 0) rfl fo_96_0) ?_
              refine wl (ro_loadB rfl sc_9 (hB) (cel_get' (by omega) V.p0)) ?_
              refine wl (ro_lenS rfl st_9) ?_
              refine wl (ro_cmp (r := false) rfl rfl (congrArg some (decide_eq_false (by omega)))) ?_
              refine wl_nil (x_then (hK4 _ _ ?_))
              clear hK4 K4
              refine wc_condF rfl ?_
              refine c_skip (x_then (hK3 _ _ ?_))
              clear hK3 K3
              refine forget [(0, _), (2, _), (5, _)] ⟨rfl, rfl, rfl, trivial⟩ (fun e => ?_)
              refine c_seq (fun K5 hK5 => ?_)
              refine c_reg ?_ -- region 5 class.go:84
              refine wl (ro_move rfl) ?_
              refine wl (ro_nilCheck rfl) ?_
              refine wl (ro_fieldAddr (k := 0) rfl fo_96_0) ?_
              refine wl (ro_loadB rfl sc_9 (hB) (cel_get' (by omega) V.p0)) ?_
              refine wl (ro_move rfl) ?_
              refine wl (ro_arith rfl rfl rfl (Go.IntWalk.i64_in _ (by omega))) ?_
              refine wl (ro_indexS rfl rfl st_9 ((show _ = ((σ.i + 1 : Nat) : Int) by omega)) (hc)) ?_
              refine wl (ro_assign rfl) ?_
              refine wl_nil (x_then (hK5 _ _ ?_))
              clear hK5 K5
              refine forget [(0, _), (2, _), (5, _), (6, _)] ⟨rfl, rfl, rfl, rfl, trivial⟩ (fun e => ?_)
              refine c_seq (fun K6 hK6 => ?_)
              refine c_reg ?_ -- region 6 class.go:85
              refine wl (ro_move rfl) ?_
              refine wl (ro_move rfl) ?_
              refine wl (ro_arith rfl rfl rfl (Go.IntWalk.i64_in _ (by omega))) ?_
              refine wl (ro_nilCheck rfl) ?_
              refine wl (ro_fieldAddr (k := 1) rfl fo_96_1) ?_
              refine wl_put rfl rfl rfl sz_3 hB ((cel_lt (by omega))) ((cel_put 1 (by omega))) (fun w2 hB F2 => ?_)
              replace hF := hF.thenDrew.thenO F2 (by first | exact .inr (by omega) | exact .inl rfl | exact .inl (by assumption))
              replace hM := F2.blkO hM (by omega)
              refine wl_nil (x_then (hK6 _ _ ?_))
              clear hK6 K6
              refine forget [(0, _), (2, _), (5, _), (6, _)] ⟨rfl, rfl, rfl, rfl, trivial⟩ (fun e => ?_)
              refine c_seq (fun K7 hK7 => ?_)
              refine c_reg ?_ -- region 7 class.go:86
              refine wl (ro_move rfl) ?_
              refine wl_call rfl en_141 (named141) ?_
              rintro _ w3 ⟨rfl, F3⟩
              replace hF := hF.thenDrew.thenN F3
              replace hB := F3.blkN hB
              replace hM := F3.blkN hM
              refine wl (ro_move rfl) ?_
              refine wl (ro_extract rfl rfl) ?_
              refine wl (ro_extract rfl rfl) ?_
              rw [hn]
              refine wl_new (ze_87) (fun ab w4 hbab hA F4 => ?_)
              have hbsab := Nat.le_trans hF.size hbab
              have hnexbab : xb < ab := Nat.lt_of_lt_of_le hB.lt hbab
              have hnembab : mb < ab := Nat.lt_of_lt_of_le hM.lt hbab
              replace hF := hF.thenDrew.thenN F4
              replace hB := F4.blkN hB
              replace hM := F4.blkN hM
              refine wl_puta rfl rfl (by simp [Value.oneCell', i64c, u64c, u8c, ptr]) sz_87 (rfl) hA ((by simp)) (rfl) (fun w5 hA F5 => ?_)
              replace hF := hF.thenDrew.thenO F5 (by first | exact .inr (by omega) | exact .inl rfl | exact .inl (by assumption))
              replace hB := F5.blkO hB (by omega)
              replace hM := F5.blkO hM (by omega)
              refine wl (ro_assign rfl) ?_
              refine wl_nil (x_then (hK7 _ _ ?_))
              clear hK7 K7
              refine c_seq (fun K8 hK8 => ?_)
              refine c_seq (fun K9 hK9 => ?_)
              refine c_reg ?_ -- region 8 class.go:87
              refine wl (ro_move rfl) ?_
              refine wl_nil (x_then (hK9 _ _ ?_))
              clear hK9 K9
              refine wc_condF rfl ?_
              refine c_skip (x_then (hK8 _ _ ?_))
              clear hK8 K8
              refine forget [(0, _), (2, _), (5, _), (6, _)] ⟨rfl, rfl, rfl, rfl, trivial⟩ (fun e => ?_)
              refine c_seq (fun K10 hK10 => ?_)
              refine c_reg ?_ -- region 10 class.go:90
              refine wl (ro_move rfl) ?_
              refine wl (ro_assign rfl) ?_
              refine wl_nil (x_then (hK10 _ _ ?_))
              clear hK10 K10
              refine c_seq (fun K11 hK11 => ?_)
              refine c_seq (fun K12 hK12 => ?_)
              refine c_reg ?_ -- region 11 class.go:91
              refine wl (ro_move rfl) ?_
              refine wl_nil (x_then (hK12 _ _ ?_))
              clear hK12 K12
              refine c_block ?_
              refine forget [(0, _), (2, _), (5, _), (6, _), (9, _), (48, _)] ⟨rfl, rfl, rfl, rfl, rfl, rfl, trivial⟩ (fun e => ?_)
              refine c_seq (fun K13 hK13 => ?_)
              refine c_reg ?_ -- region 15 class.go:92
              refine wl (ro_cmp rfl rfl rfl) ?_
              refine wl (ro_assign rfl) ?_
              refine wl_nil (x_then (hK13 _ _ ?_))
              clear hK13 K13
              refine wc_condF rfl ?_
              refine c_seq (fun K14 hK14 => ?_)
              refine c_reg ?_ -- region 17 class.go:94
              refine wl (ro_cmp rfl rfl rfl) ?_
              refine wl (ro_assign rfl) ?_
              refine wl_nil (x_then (hK14 _ _ ?_))
              clear hK14 K14
              refine wc_condF rfl ?_
              refine c_seq (fun K15 hK15 => ?_)
              refine c_reg ?_ -- region 19 class.go:96
              refine wl (ro_cmp rfl rfl rfl) ?_
              refine wl (ro_assign rfl) ?_
              refine wl_nil (x_then (hK15 _ _ ?_))
              clear hK15 K15
              refine wc_condF rfl ?_
              refine c_seq (fun K16 hK16 => ?_)
              refine c_reg ?_ -- region 21 class.go:98
              refine wl (ro_cmp rfl rfl rfl) ?_
              refine wl (ro_assign rfl) ?_
              refine wl_nil (x_then (hK16 _ _ ?_))
              clear hK16 K16
              refine wc_condT rfl ?_
              refine c_seq (fun K17 hK17 => ?_)
              refine c_reg ?_ -- region 22 class.go:99
              refine wl (ro_assign rfl) ?_
              refine wl (ro_assign rfl) ?_
              refine wl_nil (x_then (hK17 _ _ ?_))
              clear hK17 K17
              refine c_seq (fun K18 hK18 => ?_)
              refine c_seq (fun K19 hK19 => ?_)
              refine c_reg ?_ -- region 23 class.go:100
              refine wl (ro_move rfl) ?_
              refine wl (ro_arith rfl rfl rfl (Go.IntWalk.i64_in _ (by omega))) ?_
              refine wl (ro_move rfl) ?_
              refine wl (ro_nilCheck rfl) ?_
              refine wl (ro_fieldAddr (k := 0) rfl fo_96_0) ?_
              refine wl (ro_loadB rfl sc_9 (hB) (cel_get' (by omega) V2.p0)) ?_
              refine wl (ro_lenS rfl st_9) ?_
              refine wl (ro_cmp (r := true) rfl rfl (congrArg some (decide_eq_true (by omega)))) ?_
              refine wl_nil (x_then (hK19 _ _ ?_))
              clear hK19 K19
              refine wc_condT rfl ?_
              refine c_seq (fun K20 hK20 => ?_)
              refine c_reg ?_ -- region 24 class.go:101
              refine wl (ro_move rfl) ?_
              refine wl (ro_nilCheck rfl) ?_
              refine wl (ro_fieldAddr (k := 0) rfl fo_96_0) ?_
              refine wl (ro_loadB rfl sc_9 (hB) (cel_get' (by omega) V2.p0)) ?_
              refine wl (ro_move rfl) ?_
              refine wl (ro_arith rfl rfl rfl (Go.IntWalk.i64_in _ (by omega))) ?_
              refine wl (ro_indexS rfl rfl st_9 ((show _ = ((σ.i + 2 : Nat) : Int) by omega)) (hh)) ?_
              refine wl_call rfl en_142 (nibble142) ?_
              rintro _ _ ⟨rfl, rfl⟩
              refine wl (ro_assign rfl) ?_
              refine wl_nil (x_then (hK20 _ _ ?_))
              clear hK20 K20
              refine c_reg ?_ -- region 25 class.go:102
              refine wl (ro_move rfl) ?_
              refine wl (ro_nilCheck rfl) ?_
              refine wl (ro_fieldAddr (k := 0) rfl fo_96_0) ?_
              refine wl (ro_loadB rfl sc_9 (hB) (cel_get' (by omega) V2.p0)) ?_
              refine wl (ro_move rfl) ?_
              refine wl (ro_arith rfl rfl rfl (Go.IntWalk.i64_in _ (by omega))) ?_
              refine wl (ro_indexS rfl rfl st_9 ((show _ = ((σ.i + 3 : Nat) : Int) by omega)) (hl)) ?_
              refine wl_call rfl en_142 (nibble142) ?_
              rintro _ _ ⟨rfl, rfl⟩
              refine wl (ro_assign rfl) ?_
              refine wl_nil (x_then (hK18 _ _ ?_))
              clear hK18 K18
              refine c_seq (fun K21 hK21 => ?_)
              refine c_seq (fun K22 hK22 => ?_)
              refine c_reg ?_ -- region 26 class.go:104
              refine wl (ro_move rfl) ?_
              refine wl (ro_cmp (r := false) rfl rfl (congrArg some (decide_eq_false q1))) ?_
              refine wl (ro_move rfl) ?_
              refine wlg_yes rfl (ro_move rfl) ?_
              refine wlg_yes rfl (ro_cmp (r := true) rfl rfl (congrArg some (decide_eq_true q2))) ?_
              refine wl (ro_pick rfl rfl rfl) ?_
              refine wl_nil (x_then (hK22 _ _ ?_))
              clear hK22 K22
              refine wc_condT rfl ?_
              refine c_seq (fun K23 hK23 => ?_)
              refine c_reg ?_ -- region 27 class.go:105
              refine wl (ro_move rfl) ?_
              refine wl (ro_move rfl) ?_
              refine wl_call rfl en_97 (fail97 hB) ?_
              rintro _ w9 ⟨rfl, hB, F9⟩
              replace hF := hF.trans F9
              replace hM := F9.blkO hM (by omega)
              replace hA := F9.blkO hA (by omega)
              refine wl_nil (x_then (hK23 _ _ ?_))
              clear hK23 K23
              refine forget [(2, _)] ⟨rfl, trivial⟩ (fun e => ?_)
              refine c_seq (fun K24 hK24 => ?_)
              refine c_reg ?_ -- region 28 class.go:106
              refine wl (ro_build rfl bld_87) ?_
              rw [zeroS]
              refine wl_puta rfl rfl (by simp [Value.oneCell', i64c, u64c, u8c, ptr]) sz_87 (rfl) hM ((by simp)) (rfl) (fun w6 hM F6 => ?_)
              replace hF := hF.thenDrew.thenO F6 (by first | exact .inr (by omega) | exact .inl rfl | exact .inl (by assumption))
              replace hB := F6.blkO hB (by omega)
              replace hA := F6.blkO hA (by omega)
              refine wl (ro_assign rfl) ?_
              refine wl (ro_assign rfl) ?_
              refine wl_nil (x_then (hK24 _ _ ?_))
              clear hK24 K24
              refine c_ret (x_thenR (x_blkR (x_thenR ?_)))
              refine bq_ret (res3 Tryz.results126 (rv_c rfl ag_87 (hM) rfl) (rv_t rfl) (rv_t rfl)) ?_
              exact ⟨EP.er (i := σ.i) hB (err97 V2) rfl, hF⟩
            · rw [if_pos (by omega)]
              simp only
              obtain ⟨y, hy⟩ : ∃ y : Nat, hexv h * 16 + hexv l = (y : Int) := ⟨(hexv h * 16 + hexv l).toNat, by omega⟩
              have hy256 : y < 256 := by omega
              rw [hy]
              simp only [Int.toNat_natCast]
              have V4 : PV (pt (pt f 1 (i64c (σ.i + 2))) 1 (i64c (σ.i + 4))) p { σ with i := σ.i + 4 } T := V2.setI (i := σ.i + 4) (by omega)
              have hu8 : Value.int .u8 (y : Int) = u8c (UInt8.ofNat y) := by unfold u8c; rw [UInt8.toNat_ofNat_of_lt' hy256]
              refine ret_of Tryz.func126 rfl Tryz.ntmps126 rfl ?_
              refine c_seq (fun K1 hK1 => ?_)
              refine c_reg ?_ -- region 0 class.go:78
              refine wl_new (ze_87) (fun mb w1 hbmb hM F1 => ?_)
              have hbsmb := Nat.le_trans hF.size hbmb
              have hnexbmb : xb < mb := Nat.lt_of_lt_of_le hB.lt hbmb
              replace hF := hF.thenDrew.thenN F1
              replace hB := F1.blkN hB
              refine wl (ro_assign rfl) ?_
              refine wl (ro_assign rfl) ?_
              refine wl_nil (x_then (hK1 _ _ ?_))
              clear hK1 K1
              refine forget [(0, _), (2, _)] ⟨rfl, rfl, trivial⟩ (fun e => ?_)
              refine c_seq (fun K2 hK2 => ?_)
              refine c_reg ?_ -- region 1 class.go:79
              refine wl (ro_move rfl) ?_
              refine wl (ro_nilCheck rfl) ?_
              refine wl (ro_fieldAddr (k := 1) rfl fo_96_1) ?_
              refine wl (ro_loadB rfl sc_3 (hB) (cel_get' (by omega) V.i1)) ?_
              refine wl (ro_assign rfl) ?_
              refine wl_nil (x_then (hK2 _ _ ?_))
              clear hK2 K2
              refine c_seq (fun K3 hK3 => ?_)
              refine c_seq (fun K4 hK4 => ?_)
              refine c_reg ?_ -- region 2 class.go:80
              refine wl (ro_move rfl) ?_
              refine wl (ro_arith rfl rfl rfl (Go.IntWalk.i64_in _ (by omega))) ?_
              refine wl (ro_move rfl) ?_
              refine wl (ro_nilCheck rfl) ?_
              refine wl (ro_fieldAddr (k := 0) rfl fo_96_0) ?_
              refine wl (ro_loadB rfl sc_9 (hB) (cel_get' (by omega) V.p0)) ?_
              refine wl (ro_lenS rfl st_9) ?_
              refine wl (ro_cmp (r := false) rfl rfl (congrArg some (decide_eq_false (by omega)))) ?_
              refine wl_nil (x_then (hK4 _ _ ?_))
              clear hK4 K4
              refine wc_condF rfl ?_
              refine c_skip (x_then (hK3 _ _ ?_))
              clear hK3 K3
              refine forget [(0, _), (2, _), (5, _)] ⟨rfl, rfl, rfl, trivial⟩ (fun e => ?_)
              refine c_seq (fun K5 hK5 => ?_)
              refine c_reg ?_ -- region 5 class.go:84
              refine wl (ro_move rfl) ?_
              refine wl (ro_nilCheck rfl) ?_
              refine wl (ro_fieldAddr (k := 0) rfl fo_96_0) ?_
              refine wl (ro_loadB rfl sc_9 (hB) (cel_get' (by omega) V.p0)) ?_
              refine wl (ro_move rfl) ?_
              refine wl (ro_arith rfl rfl rfl (Go.IntWalk.i64_in _ (by omega))) ?_
              refine wl (ro_indexS rfl rfl st_9 ((show _ = ((σ.i + 1 : Nat) : Int) by omega)) (hc)) ?_
              refine wl (ro_assign rfl) ?_
              refine wl_nil (x_then (hK5 _ _ ?_))
              clear hK5 K5
              refine forget [(0, _), (2, _), (5, _), (6, _)] ⟨rfl, rfl, rfl, rfl, trivial⟩ (fun e => ?_)
              refine c_seq (fun K6 hK6 => ?_)
              refine c_reg ?_ -- region 6 class.go:85
              refine wl (ro_move rfl) ?_
              refine wl (ro_move rfl) ?_
              refine wl (ro_arith rfl rfl rfl (Go.IntWalk.i64_in _ (by omega))) ?_
              refine wl (ro_nilCheck rfl) ?_
              refine wl (ro_fieldAddr (k := 1) rfl fo_96_1) ?_
              refine wl_put rfl rfl rfl sz_3 hB ((cel_lt (by omega))) ((cel_put 1 (by omega))) (fun w2 hB F2 => ?_)
              replace hF := hF.thenDrew.thenO F2 (by first | exact .inr (by omega) | exact .inl rfl | exact .inl (by assumption))
              replace hM := F2.blkO hM (by omega)
              refine wl_nil (x_then (hK6 _ _ ?_))
              clear hK6 K6
              refine forget [(0, _), (2, _), (5, _), (6, _)] ⟨rfl, rfl, rfl, rfl, trivial⟩ (fun e => ?_)
              refine c_seq (fun K7 hK7 => ?_)
              refine c_reg ?_ -- region 7 class.go:86
              refine wl (ro_move rfl) ?_
              refine wl_call rfl en_141 (named141) ?_
              rintro _ w3 ⟨rfl, F3⟩
              replace hF := hF.thenDrew.thenN F3
              replace hB := F3.blkN hB
              replace hM := F3.blkN hM
              refine wl (ro_move rfl) ?_
              refine wl (ro_extract rfl rfl) ?_
              refine wl (ro_extract rfl rfl) ?_
              rw [hn]
              refine wl_new (ze_87) (fun ab w4 hbab hA F4 => ?_)
              have hbsab := Nat.le_trans hF.size hbab
              have hnexbab : xb < ab := Nat.lt_of_lt_of_le hB.lt hbab
              have hnembab : mb < ab := Nat.lt_of_lt_of_le hM.lt hbab
              replace hF := hF.thenDrew.thenN F4
              replace hB := F4.blkN hB
              replace hM := F4.blkN hM
              refine wl_puta rfl rfl (by simp [Value.oneCell', i64c, u64c, u8c, ptr]) sz_87 (rfl) hA ((by simp)) (rfl) (fun w5 hA F5 => ?_)
              replace hF := hF.thenDrew.thenO F5 (by first | exact .inr (by omega) | exact .inl rfl | exact .inl (by assumption))
              replace hB := F5.blkO hB (by omega)
              replace hM := F5.blkO hM (by omega)
              refine wl (ro_assign rfl) ?_
              refine wl_nil (x_then (hK7 _ _ ?_))
              clear hK7 K7
              refine c_seq (fun K8 hK8 => ?_)
              refine c_seq (fun K9 hK9 => ?_)
              refine c_reg ?_ -- region 8 class.go:87
              refine wl (ro_move rfl) ?_
              refine wl_nil (x_then (hK9 _ _ ?_))
              clear hK9 K9
              refine wc_condF rfl ?_
              refine c_skip (x_then (hK8 _ _ ?_))
              clear hK8 K8
              refine forget [(0, _), (2, _), (5, _), (6, _)] ⟨rfl, rfl, rfl, rfl, trivial⟩ (fun e => ?_)
              refine c_seq (fun K10 hK10 => ?_)
              refine c_reg ?_ -- region 10 class.go:90
              refine wl (ro_move rfl) ?_
              refine wl (ro_assign rfl) ?_
              refine wl_nil (x_then (hK10 _ _ ?_))
              clear hK10 K10
              refine c_seq (fun K11 hK11 => ?_)
              refine c_seq (fun K12 hK12 => ?_)
              refine c_reg ?_ -- region 11 class.go:91
              refine wl (ro_move rfl) ?_
              refine wl_nil (x_then (hK12 _ _ ?_))
              clear hK12 K12
              refine c_block ?_
              refine forget [(0, _), (2, _), (5, _), (6, _), (9, _), (48, _)] ⟨rfl, rfl, rfl, rfl, rfl, rfl, trivial⟩ (fun e => ?_)
              refine c_seq (fun K13 hK13 => ?_)
              refine c_reg ?_ -- region 15 class.go:92
              refine wl (ro_cmp rfl rfl rfl) ?_
              refine wl (ro_assign rfl) ?_
              refine wl_nil (x_then (hK13 _ _ ?_))
              clear hK13 K13
              refine wc_condF rfl ?_
              refine c_seq (fun K14 hK14 => ?_)
              refine c_reg ?_ -- region 17 class.go:94
              refine wl (ro_cmp rfl rfl rfl) ?_
              refine wl (ro_assign rfl) ?_
              refine wl_nil (x_then (hK14 _ _ ?_))
              clear hK14 K14
              refine wc_condF rfl ?_
              refine c_seq (fun K15 hK15 => ?_)
              refine c_reg ?_ -- region 19 class.go:96
              refine wl (ro_cmp rfl rfl rfl) ?_
              refine wl (ro_assign rfl) ?_
              refine wl_nil (x_then (hK15 _ _ ?_))
              clear hK15 K15
              refine wc_condF rfl ?_
              refine c_seq (fun K16 hK16 => ?_)
              refine c_reg ?_ -- region 21 class.go:98
              refine wl (ro_cmp rfl rfl rfl) ?_
              refine wl (ro_assign rfl) ?_
              refine wl_nil (x_then (hK16 _ _ ?_))
              clear hK16 K16
              refine wc_condT rfl ?_
              refine c_seq (fun K17 hK17 => ?_)
              refine c_reg ?_ -- region 22 class.go:99
              refine wl (ro_assign rfl) ?_
              refine wl (ro_assign rfl) ?_
              refine wl_nil (x_then (hK17 _ _ ?_))
              clear hK17 K17
              refine c_seq (fun K18 hK18 => ?_)
              refine c_seq (fun K19 hK19 => ?_)
              refine c_reg ?_ -- region 23 class.go:100
              refine wl (ro_move rfl) ?_
              refine wl (ro_arith rfl rfl rfl (Go.IntWalk.i64_in _ (by omega))) ?_
              refine wl (ro_move rfl) ?_
              refine wl (ro_nilCheck rfl) ?_
              refine wl (ro_fieldAddr (k := 0) rfl fo_96_0) ?_
              refine wl (ro_loadB rfl sc_9 (hB) (cel_get' (by omega) V2.p0)) ?_
              refine wl (ro_lenS rfl st_9) ?_
              refine wl (ro_cmp (r := true) rfl rfl (congrArg some (decide_eq_true (by omega)))) ?_
              refine wl_nil (x_then (hK19 _ _ ?_))
              clear hK19 K19
              refine wc_condT rfl ?_
              refine c_seq (fun K20 hK20 => ?_)
              refine c_reg ?_ -- region 24 class.go:101
              refine wl (ro_move rfl) ?_
              refine wl (ro_nilCheck rfl) ?_
              refine wl (ro_fieldAddr (k := 0) rfl fo_96_0) ?_
              refine wl (ro_loadB rfl sc_9 (hB) (cel_get' (by omega) V2.p0)) ?_
              refine wl (ro_move rfl) ?_
              refine wl (ro_arith rfl rfl rfl (Go.IntWalk.i64_in _ (by omega))) ?_
              refine wl (ro_indexS rfl rfl st_9 ((show _ = ((σ.i + 2 : Nat) : Int) by omega)) (hh)) ?_
              refine wl_call rfl en_142 (nibble142) ?_
              rintro _ _ ⟨rfl, rfl⟩
              refine wl (ro_assign rfl) ?_
              refine wl_nil (x_then (hK20 _ _ ?_))
              clear hK20 K20
              refine c_reg ?_ -- region 25 class.go:102
              refine wl (ro_move rfl) ?_
              refine wl (ro_nilCheck rfl) ?_
              refine wl (ro_fieldAddr (k := 0) rfl fo_96_0) ?_
              refine wl (ro_loadB rfl sc_9 (hB) (cel_get' (by omega) V2.p0)) ?_
              refine wl (ro_move rfl) ?_
              refine wl (ro_arith rfl rfl rfl (Go.IntWalk.i64_in _ (by omega))) ?_
              refine wl (ro_indexS rfl rfl st_9 ((show _ = ((σ.i + 3 : Nat) : Int) by omega)) (hl)) ?_
              refine wl_call rfl en_142 (nibble142) ?_
              rintro _ _ ⟨rfl, rfl⟩
              refine wl (ro_assign rfl) ?_
              refine wl_nil (x_then (hK18 _ _ ?_))
              clear hK18 K18
              refine c_seq (fun K21 hK21 => ?_)
              refine c_seq (fun K22 hK22 => ?_)
              refine c_reg ?_ -- region 26 class.go:104
              refine wl (ro_move rfl) ?_
              refine wl (ro_cmp (r := false) rfl rfl (congrArg some (decide_eq_false q1))) ?_
              refine wl (ro_move rfl) ?_
              refine wlg_yes rfl (ro_move rfl) ?_
              refine wlg_yes rfl (ro_cmp (r := false) rfl rfl (congrArg some (decide_eq_false q2))) ?_
              refine wl (ro_pick rfl rfl rfl) ?_
              refine wl_nil (x_then (hK22 _ _ ?_))
              clear hK22 K22
              refine wc_condF rfl ?_
              refine c_skip (x_then (hK21 _ _ ?_))
              clear hK21 K21
              refine forget [(0, _), (2, _), (5, _), (10, _), (11, _)] ⟨rfl, rfl, rfl, rfl, rfl, trivial⟩ (fun e => ?_)
              refine c_seq (fun K23 hK23 => ?_)
              refine c_reg ?_ -- region 29 class.go:108
              refine wl (ro_move rfl) ?_
              refine wl (ro_move rfl) ?_
              refine wl (ro_arith rfl rfl rfl (Go.IntWalk.i64_in _ (by omega))) ?_
              refine wl (ro_nilCheck rfl) ?_
              refine wl (ro_fieldAddr (k := 1) rfl fo_96_1) ?_
              refine wl_put rfl rfl rfl sz_3 hB ((cel_lt (by omega))) ((cel_put 1 (by omega))) (fun w6 hB F6 => ?_)
              replace hF := hF.thenDrew.thenO F6 (by first | exact .inr (by omega) | exact .inl rfl | exact .inl (by assumption))
              replace hM := F6.blkO hM (by omega)
              replace hA := F6.blkO hA (by omega)
              refine wl_nil (x_then (hK23 _ _ ?_))
              clear hK23 K23
              refine c_reg ?_ -- region 30 class.go:109
              refine wl (ro_move rfl) ?_
              refine wl (ro_arith rfl rfl rfl (Go.IntWalk.i64_in _ (by omega))) ?_
              refine wl (ro_move rfl) ?_
              refine wl (ro_arith rfl rfl rfl (Go.IntWalk.i64_in _ (by omega))) ?_
              rw [hy]
              refine wl (ro_conv rfl sc_3 in_5 (Go.IntWalk.u8_in _ (by omega))) ?_
              rw [hu8]
              refine wl (ro_assign rfl) ?_
              refine wl_nil (x_blk (x_then (hK11 _ _ ?_)))
              clear hK11 K11
              refine forget [(2, _), (9, _)] ⟨rfl, rfl, trivial⟩ (fun e => ?_)
              refine c_seq (fun K24 hK24 => ?_)
              refine c_reg ?_ -- region 31 class.go:116
              refine wl (ro_move rfl) ?_
              refine wl (ro_move rfl) ?_
              refine wl_call rfl en_128 (between128) ?_
              rintro _ w7 ⟨rfl, F7⟩
              replace hF := hF.thenDrew.thenN F7
              replace hB := F7.blkN hB
              replace hM := F7.blkN hM
              replace hA := F7.blkN hA
              refine wl (ro_move rfl) ?_
              refine wl_puta rfl rfl (by simp [Value.oneCell', i64c, u64c, u8c, ptr]) sz_87 (rfl) hM ((by simp)) (rfl) (fun w8 hM F8 => ?_)
              replace hF := hF.thenDrew.thenO F8 (by first | exact .inr (by omega) | exact .inl rfl | exact .inl (by assumption))
              replace hB := F8.blkO hB (by omega)
              replace hA := F8.blkO hA (by omega)
              refine wl (ro_assign rfl) ?_
              refine wl (ro_assign rfl) ?_
              refine wl_nil (x_then (hK24 _ _ ?_))
              clear hK24 K24
              refine c_ret ?_
              refine bq_ret (res3 Tryz.results126 (rv_c rfl ag_87 (hM) rfl) (rv_t rfl) (rv_t rfl)) ?_
              exact ⟨EP.ok (b := UInt8.ofNat y) (j := σ.i + 4) hB V4 (by rw [UInt8.toNat_ofNat_of_lt' hy256]), hF⟩
        · have hl : p[σ.i + 3]? = none := List.getElem?_eq_none (by omega)
          rw [hl]
          have he : (match p[σ.i + 2]?, (none : Option UInt8) with | some h, some l => (if 0 ≤ hexv h ∧ 0 ≤ hexv l then some (rng (hexv h * 16 + hexv l).toNat (hexv h * 16 + hexv l).toNat, true, (hexv h * 16 + hexv l).toNat, 4) else none : Option (Cset × Bool × Nat × Nat)) | _, _ => none) = none := by cases p[σ.i + 2]? <;> rfl
          rw [he]
          simp only
          refine ret_of Tryz.func126 rfl Tryz.ntmps126 rfl ?_
          refine c_seq (fun K1 hK1 => ?_)
          refine c_reg ?_ -- region 0 class.go:78
          refine wl_new (ze_87) (fun mb w1 hbmb hM F1 => ?_)
          have hbsmb := Nat.le_trans hF.size hbmb
          have hnexbmb : xb < mb := Nat.lt_of_lt_of_le hB.lt hbmb
          replace hF := hF.thenDrew.thenN F1
          replace hB := F1.blkN hB
          refine wl (ro_assign rfl) ?_
          refine wl (ro_assign rfl) ?_
          refine wl_nil (x_then (hK1 _ _ ?_))
          clear hK1 K1
          refine forget [(0, _), (2, _)] ⟨rfl, rfl, trivial⟩ (fun e => ?_)
          refine c_seq (fun K2 hK2 => ?_)
          refine c_reg ?_ -- region 1 class.go:79
          refine wl (ro_move rfl) ?_
          refine wl (ro_nilCheck rfl) ?_
          refine wl (ro_fieldAddr (k := 1) rfl fo_96_1) ?_
          refine wl (ro_loadB rfl sc_3 (hB) (cel_get' (by omega) V.i1)) ?_
          refine wl (ro_assign rfl) ?_
          refine wl_nil (x_then (hK2 _ _ ?_))
          clear hK2 K2
          refine c_seq (fun K3 hK3 => ?_)
          refine c_seq (fun K4 hK4 => ?_)
          refine c_reg ?_ -- region 2 class.go:80
          refine wl (ro_move rfl) ?_
          refine wl (ro_arith rfl rfl rfl (Go.IntWalk.i64_in _ (by omega))) ?_
          refine wl (ro_move rfl) ?_
          refine wl (ro_nilCheck rfl) ?_
          refine wl (ro_fieldAddr (k := 0) rfl fo_96_0) ?_
          refine wl (ro_loadB rfl sc_9 (hB) (cel_get' (by omega) V.p0)) ?_
          refine wl (ro_lenS rfl st_9) ?_
          refine wl (ro_cmp (r := false) rfl rfl (congrArg some (decide_eq_false (by omega)))) ?_
          refine wl_nil (x_then (hK4 _ _ ?_))
          clear hK4 K4
          refine wc_condF rfl ?_
          refine c_skip (x_then (hK3 _ _ ?_))
          clear hK3 K3
          refine forget [(0, _), (2, _), (5, _)] ⟨rfl, rfl, rfl, trivial⟩ (fun e => ?_)
          refine c_seq (fun K5 hK5 => ?_)
          refine c_reg ?_ -- region 5 class.go:84
          refine wl (ro_move rfl) ?_
          refine wl (ro_nilCheck rfl) ?_
          refine wl (ro_fieldAddr (k := 0) rfl fo_96_0) ?_
          refine wl (ro_loadB rfl sc_9 (hB) (cel_get' (by omega) V.p0)) ?_
          refine wl (ro_move rfl) ?_
          refine wl (ro_arith rfl rfl rfl (Go.IntWalk.i64_in _ (by omega))) ?_
          refine wl (ro_indexS rfl rfl st_9 ((show _ = ((σ.i + 1 : Nat) : Int) by omega)) (hc)) ?_
          refine wl (ro_assign rfl) ?_
          refine wl_nil (x_then (hK5 _ _ ?_))
          clear hK5 K5
          refine forget [(0, _), (2, _), (5, _), (6, _)] ⟨rfl, rfl, rfl, rfl, trivial⟩ (fun e => ?_)
          refine c_seq (fun K6 hK6 => ?_)
          refine c_reg ?_ -- region 6 class.go:85
          refine wl (ro_move rfl) ?_
          refine wl (ro_move rfl) ?_
          refine wl (ro_arith rfl rfl rfl (Go.IntWalk.i64_in _ (by omega))) ?_
          refine wl (ro_nilCheck rfl) ?_
          refine wl (ro_fieldAddr (k := 1) rfl fo_96_1) ?_
          refine wl_put rfl rfl rfl sz_3 hB ((cel_lt (by omega))) ((cel_put 1 (by omega))) (fun w2 hB F2 => ?_)
          replace hF := hF.thenDrew.thenO F2 (by first | exact .inr (by omega) | exact .inl rfl | exact .inl (by assumption))
          replace hM := F2.blkO hM (by omega)
          refine wl_nil (x_then (hK6 _ _ ?_))
          clear hK6 K6
          refine forget [(0, _), (2, _), (5, _), (6, _)] ⟨rfl, rfl, rfl, rfl, trivial⟩ (fun e => ?_)
          refine c_seq (fun K7 hK7 => ?_)
          refine c_reg ?_ -- region 7 class.go:86
          refine wl (ro_move rfl) ?_
          refine wl_call rfl en_141 (named141) ?_
          rintro _ w3 ⟨rfl, F3⟩
          replace hF := hF.thenDrew.thenN F3
          replace hB := F3.blkN hB
          replace hM := F3.blkN hM
          refine wl (ro_move rfl) ?_
          refine wl (ro_extract rfl rfl) ?_
          refine wl (ro_extract rfl rfl) ?_
          rw [hn]
          refine wl_new (ze_87) (fun ab w4 hbab hA F4 => ?_)
          have hbsab := Nat.le_trans hF.size hbab
          have hnexbab : xb < ab := Nat.lt_of_lt_of_le hB.lt hbab
          have hnembab : mb < ab := Nat.lt_of_lt_of_le hM.lt hbab
          replace hF := hF.thenDrew.thenN F4
          replace hB := F4.blkN hB
          replace hM := F4.blkN hM
          refine wl_puta rfl rfl (by simp [Value.oneCell', i64c, u64c, u8c, ptr]) sz_87 (rfl) hA ((by simp)) (rfl) (fun w5 hA F5 => ?_)
          replace hF := hF.thenDrew.thenO F5 (by first | exact .inr (by omega) | exact .inl rfl | exact .inl (by assumption))
          replace hB := F5.blkO hB (by omega)
          replace hM := F5.blkO hM (by omega)
          refine wl (ro_assign rfl) ?_
          refine wl_nil (x_then (hK7 _ _ ?_))
          clear hK7 K7
          refine c_seq (fun K8 hK8 => ?_)
          refine c_seq (fun K9 hK9 => ?_)
          refine c_reg ?_ -- region 8 class.go:87
          refine wl (ro_move rfl) ?_
          refine wl_nil (x_then (hK9 _ _ ?_))
          clear hK9 K9
          refine wc_condF rfl ?_
          refine c_skip (x_then (hK8 _ _ ?_))
          clear hK8 K8
          refine forget [(0, _), (2, _), (5, _), (6, _)] ⟨rfl, rfl, rfl, rfl, trivial⟩ (fun e => ?_)
          refine c_seq (fun K10 hK10 => ?_)
          refine c_reg ?_ -- region 10 class.go:90
          refine wl (ro_move rfl) ?_
          refine wl (ro_assign rfl) ?_
          refine wl_nil (x_then (hK10 _ _ ?_))
          clear hK10 K10
          refine c_seq (fun K11 hK11 => ?_)
          refine c_seq (fun K12 hK12 => ?_)
          refine c_reg ?_ -- region 11 class.go:91
          refine wl (ro_move rfl) ?_
          refine wl_nil (x_then (hK12 _ _ ?_))
          clear hK12 K12
          refine c_block ?_
          refine forget [(0, _), (2, _), (5, _), (6, _), (9, _), (48, _)] ⟨rfl, rfl, rfl, rfl, rfl, rfl, trivial⟩ (fun e => ?_)
          refine c_seq (fun K13 hK13 => ?_)
          refine c_reg ?_ -- region 15 class.go:92
          refine wl (ro_cmp rfl rfl rfl) ?_
          refine wl (ro_assign rfl) ?_
          refine wl_nil (x_then (hK13 _ _ ?_))
          clear hK13 K13
          refine wc_condF rfl ?_
          refine c_seq (fun K14 hK14 => ?_)
          refine c_reg ?_ -- region 17 class.go:94
          refine wl (ro_cmp rfl rfl rfl) ?_
          refine wl (ro_assign rfl) ?_
          refine wl_nil (x_then (hK14 _ _ ?_))
          clear hK14 K14
          refine wc_condF rfl ?_
          refine c_seq (fun K15 hK15 => ?_)
          refine c_reg ?_ -- region 19 class.go:96
          refine wl (ro_cmp rfl rfl rfl) ?_
          refine wl (ro_assign rfl) ?_
          refine wl_nil (x_then (hK15 _ _ ?_))
          clear hK15 K15
          refine wc_condF rfl ?_
          refine c_seq (fun K16 hK16 => ?_)
          refine c_reg ?_ -- region 21 class.go:98
          refine wl (ro_cmp rfl rfl rfl) ?_
          refine wl (ro_assign rfl) ?_
          refine wl_nil (x_then (hK16 _ _ ?_))
          clear hK16 K16
          refine wc_condT rfl ?_
          refine c_seq (fun K17 hK17 => ?_)
          refine c_reg ?_ -- region 22 class.go:99
          refine wl (ro_assign rfl) ?_
          refine wl (ro_assign rfl) ?_
          refine wl_nil (x_then (hK17 _ _ ?_))
          clear hK17 K17
          refine c_seq (fun K18 hK18 => ?_)
          refine c_seq (fun K19 hK19 => ?_)
          refine c_reg ?_ -- region 23 class.go:100
          refine wl (ro_move rfl) ?_
          refine wl (ro_arith rfl rfl rfl (Go.IntWalk.i64_in _ (by omega))) ?_
          refine wl (ro_move rfl) ?_
          refine wl (ro_nilCheck rfl) ?_
          refine wl (ro_fieldAddr (k := 0) rfl fo_96_0) ?_
          refine wl (ro_loadB rfl sc_9 (hB) (cel_get' (by omega) V2.p0)) ?_
          refine wl (ro_lenS rfl st_9) ?_
          refine wl (ro_cmp (r := false) rfl rfl (congrArg some (decide_eq_false (by omega)))) ?_
          refine wl_nil (x_then (hK19 _ _ ?_))
          clear hK19 K19
          refine wc_condF rfl ?_
          refine c_skip (x_then (hK18 _ _ ?_))
          clear hK18 K18
          refine c_seq (fun K20 hK20 => ?_)
          refine c_seq (fun K21 hK21 => ?_)
          refine c_reg ?_ -- region 26 class.go:104
          refine wl (ro_move rfl) ?_
          refine wl (ro_cmp (r := true) rfl rfl rfl) ?_
          refine wl (ro_move rfl) ?_
          refine wlg_no rfl ?_
          refine wlg_no rfl ?_
          refine wl (ro_pick rfl rfl rfl) ?_
          refine wl_nil (x_then (hK21 _ _ ?_))
          clear hK21 K21
          refine wc_condT rfl ?_
          refine c_seq (fun K22 hK22 => ?_)
          refine c_reg ?_ -- region 27 class.go:105
          refine wl (ro_move rfl) ?_
          refine wl (ro_move rfl) ?_
          refine wl_call rfl en_97 (fail97 hB) ?_
          rintro _ w9 ⟨rfl, hB, F9⟩
          replace hF := hF.trans F9
          replace hM := F9.blkO hM (by omega)
          replace hA := F9.blkO hA (by omega)
          refine wl_nil (x_then (hK22 _ _ ?_))
          clear hK22 K22
          refine forget [(2, _)] ⟨rfl, trivial⟩ (fun e => ?_)
          refine c_seq (fun K23 hK23 => ?_)
          refine c_reg ?_ -- region 28 class.go:106
          refine wl (ro_build rfl bld_87) ?_
          rw [zeroS]
          refine wl_puta rfl rfl (by simp [Value.oneCell', i64c, u64c, u8c, ptr]) sz_87 (rfl) hM ((by simp)) (rfl) (fun w6 hM F6 => ?_)
          replace hF := hF.thenDrew.thenO F6 (by first | exact .inr (by omega) | exact .inl rfl | exact .inl (by assumption))
          replace hB := F6.blkO hB (by omega)
          replace hA := F6.blkO hA (by omega)
          refine wl (ro_assign rfl) ?_
          refine wl (ro_assign rfl) ?_
          refine wl_nil (x_then (hK23 _ _ ?_))
          clear hK23 K23
          refine c_ret (x_thenR (x_blkR (x_thenR ?_)))
          refine bq_ret (res3 Tryz.results126 (rv_c rfl ag_87 (hM) rfl) (rv_t rfl) (rv_t rfl)) ?_
          exact ⟨EP.er (i := σ.i) hB (err97 V2) rfl, hF⟩
      rw [escB_last hn h110 h116 h114 h120]
      have hq : c.toNat < 48 ∨ (48 ≤ c.toNat ∧ c.toNat ≤ 57) ∨ (57 < c.toNat ∧ c.toNat < 65) ∨ (65 ≤ c.toNat ∧ c.toNat ≤ 90) ∨ (90 < c.toNat ∧ c.toNat < 97) ∨ (97 ≤ c.toNat ∧ c.toNat ≤ 122) ∨ 122 < c.toNat := by omega
      rcases hq with q | q | q | q | q | q | q
      · rw [isAln_f (by omega), if_neg (by simp)]
        simp only
        refine ret_of Tryz.func126 rfl Tryz.ntmps126 rfl ?_
        refine c_seq (fun K1 hK1 => ?_)
        refine c_reg ?_ -- region 0 class.go:78
        refine wl_new (ze_87) (fun mb w1 hbmb hM F1 => ?_)
        have hbsmb := Nat.le_trans hF.size hbmb
        have hnexbmb : xb < mb := Nat.lt_of_lt_of_le hB.lt hbmb
        replace hF := hF.thenDrew.thenN F1
        replace hB := F1.blkN hB
        refine wl (ro_assign rfl) ?_
        refine wl (ro_assign rfl) ?_
        refine wl_nil (x_then (hK1 _ _ ?_))
        clear hK1 K1
        refine forget [(0, _), (2, _)] ⟨rfl, rfl, trivial⟩ (fun e => ?_)
        refine c_seq (fun K2 hK2 => ?_)
        refine c_reg ?_ -- region 1 class.go:79
        refine wl (ro_move rfl) ?_
        refine wl (ro_nilCheck rfl) ?_
        refine wl (ro_fieldAddr (k := 1) rfl fo_96_1) ?_
        refine wl (ro_loadB rfl sc_3 (hB) (cel_get' (by omega) V.i1)) ?_
        refine wl (ro_assign rfl) ?_
        refine wl_nil (x_then (hK2 _ _ ?_))
        clear hK2 K2
        refine c_seq (fun K3 hK3 => ?_)
        refine c_seq (fun K4 hK4 => ?_)
        refine c_reg ?_ -- region 2 class.go:80
        refine wl (ro_move rfl) ?_
        refine wl (ro_arith rfl rfl rfl (Go.IntWalk.i64_in _ (by omega))) ?_
        refine wl (ro_move rfl) ?_
        refine wl (ro_nilCheck rfl) ?_
        refine wl (ro_fieldAddr (k := 0) rfl fo_96_0) ?_
        refine wl (ro_loadB rfl sc_9 (hB) (cel_get' (by omega) V.p0)) ?_
        refine wl (ro_lenS rfl st_9) ?_
        refine wl (ro_cmp (r := false) rfl rfl (congrArg some (decide_eq_false (by omega)))) ?_
        refine wl_nil (x_then (hK4 _ _ ?_))
        clear hK4 K4
        refine wc_condF rfl ?_
        refine c_skip (x_then (hK3 _ _ ?_))
        clear hK3 K3
        refine forget [(0, _), (2, _), (5, _)] ⟨rfl, rfl, rfl, trivial⟩ (fun e => ?_)
        refine c_seq (fun K5 hK5 => ?_)
        refine c_reg ?_ -- region 5 class.go:84
        refine wl (ro_move rfl) ?_
        refine wl (ro_nilCheck rfl) ?_
        refine wl (ro_fieldAddr (k := 0) rfl fo_96_0) ?_
        refine wl (ro_loadB rfl sc_9 (hB) (cel_get' (by omega) V.p0)) ?_
        refine wl (ro_move rfl) ?_
        refine wl (ro_arith rfl rfl rfl (Go.IntWalk.i64_in _ (by omega))) ?_
        refine wl (ro_indexS rfl rfl st_9 ((show _ = ((σ.i + 1 : Nat) : Int) by omega)) (hc)) ?_
        refine wl (ro_assign rfl) ?_
        refine wl_nil (x_then (hK5 _ _ ?_))
        clear hK5 K5
        refine forget [(0, _), (2, _), (5, _), (6, _)] ⟨rfl, rfl, rfl, rfl, trivial⟩ (fun e => ?_)
        refine c_seq (fun K6 hK6 => ?_)
        refine c_reg ?_ -- region 6 class.go:85
        refine wl (ro_move rfl) ?_
        refine wl (ro_move rfl) ?_
        refine wl (ro_arith rfl rfl rfl (Go.IntWalk.i64_in _ (by omega))) ?_
        refine wl (ro_nilCheck rfl) ?_
        refine wl (ro_fieldAddr (k := 1) rfl fo_96_1) ?_
        refine wl_put rfl rfl rfl sz_3 hB ((cel_lt (by omega))) ((cel_put 1 (by omega))) (fun w2 hB F2 => ?_)
        replace hF := hF.thenDrew.thenO F2 (by first | exact .inr (by omega) | exact .inl rfl | exact .inl (by assumption))
        replace hM := F2.blkO hM (by omega)
        refine wl_nil (x_then (hK6 _ _ ?_))
        clear hK6 K6
        refine forget [(0, _), (2, _), (5, _), (6, _)] ⟨rfl, rfl, rfl, rfl, trivial⟩ (fun e => ?_)
        refine c_seq (fun K7 hK7 => ?_)
        refine c_reg ?_ -- region 7 class.go:86
        refine wl (ro_move rfl) ?_
        refine wl_call rfl en_141 (named141) ?_
        rintro _ w3 ⟨rfl, F3⟩
        replace hF := hF.thenDrew.thenN F3
        replace hB := F3.blkN hB
        replace hM := F3.blkN hM
        refine wl (ro_move rfl) ?_
        refine wl (ro_extract rfl rfl) ?_
        refine wl (ro_extract rfl rfl) ?_
        rw [hn]
        refine wl_new (ze_87) (fun ab w4 hbab hA F4 => ?_)
        have hbsab := Nat.le_trans hF.size hbab
        have hnexbab : xb < ab := Nat.lt_of_lt_of_le hB.lt hbab
        have hnembab : mb < ab := Nat.lt_of_lt_of_le hM.lt hbab
        replace hF := hF.thenDrew.thenN F4
        replace hB := F4.blkN hB
        replace hM := F4.blkN hM
        refine wl_puta rfl rfl (by simp [Value.oneCell', i64c, u64c, u8c, ptr]) sz_87 (rfl) hA ((by simp)) (rfl) (fun w5 hA F5 => ?_)
        replace hF := hF.thenDrew.thenO F5 (by first | exact .inr (by omega) | exact .inl rfl | exact .inl (by assumption))
        replace hB := F5.blkO hB (by omega)
        replace hM := F5.blkO hM (by omega)
        refine wl (ro_assign rfl) ?_
        refine wl_nil (x_then (hK7 _ _ ?_))
        clear hK7 K7
        refine c_seq (fun K8 hK8 => ?_)
        refine c_seq (fun K9 hK9 => ?_)
        refine c_reg ?_ -- region 8 class.go:87
        refine wl (ro_move rfl) ?_
        refine wl_nil (x_then (hK9 _ _ ?_))
        clear hK9 K9
        refine wc_condF rfl ?_
        refine c_skip (x_then (hK8 _ _ ?_))
        clear hK8 K8
        refine forget [(0, _), (2, _), (5, _), (6, _)] ⟨rfl, rfl, rfl, rfl, trivial⟩ (fun e => ?_)
        refine c_seq (fun K10 hK10 => ?_)
        refine c_reg ?_ -- region 10 class.go:90
        refine wl (ro_move rfl) ?_
        refine wl (ro_assign rfl) ?_
        refine wl_nil (x_then (hK10 _ _ ?_))
        clear hK10 K10
        refine c_seq (fun K11 hK11 => ?_)
        refine c_seq (fun K12 hK12 => ?_)
        refine c_reg ?_ -- region 11 class.go:91
        refine wl (ro_move rfl) ?_
        refine wl_nil (x_then (hK12 _ _ ?_))
        clear hK12 K12
        refine c_block ?_
        refine forget [(0, _), (2, _), (5, _), (6, _), (9, _), (48, _)] ⟨rfl, rfl, rfl, rfl, rfl, rfl, trivial⟩ (fun e => ?_)
        refine c_seq (fun K13 hK13 => ?_)
        refine c_reg ?_ -- region 15 class.go:92
        refine wl (ro_cmp (r := false) rfl rfl (congrArg some ((u8eq c 110).trans (decide_eq_false h110)))) ?_
        refine wl (ro_assign rfl) ?_
        refine wl_nil (x_then (hK13 _ _ ?_))
        clear hK13 K13
        refine wc_condF rfl ?_
        refine c_seq (fun K14 hK14 => ?_)
        refine c_reg ?_ -- region 17 class.go:94
        refine wl (ro_cmp (r := false) rfl rfl (congrArg some ((u8eq c 116).trans (decide_eq_false h116)))) ?_
        refine wl (ro_assign rfl) ?_
        refine wl_nil (x_then (hK14 _ _ ?_))
        clear hK14 K14
        refine wc_condF rfl ?_
        refine c_seq (fun K15 hK15 => ?_)
        refine c_reg ?_ -- region 19 class.go:96
        refine wl (ro_cmp (r := false) rfl rfl (congrArg some ((u8eq c 114).trans (decide_eq_false h114)))) ?_
        refine wl (ro_assign rfl) ?_
        refine wl_nil (x_then (hK15 _ _ ?_))
        clear hK15 K15
        refine wc_condF rfl ?_
        refine c_seq (fun K16 hK16 => ?_)
        refine c_reg ?_ -- region 21 class.go:98
        refine wl (ro_cmp (r := false) rfl rfl (congrArg some ((u8eq c 120).trans (decide_eq_false h120)))) ?_
        refine wl (ro_assign rfl) ?_
        refine wl_nil (x_then (hK16 _ _ ?_))
        clear hK16 K16
        refine wc_condF rfl ?_
        refine c_seq (fun K17 hK17 => ?_)
        refine c_reg ?_ -- region 12 class.go:111
        refine wl (ro_move rfl) ?_
        refine wl (ro_cmp (r := false) rfl rfl (congrArg some (decide_eq_false (by omega)))) ?_
        refine wl (ro_move rfl) ?_
        refine wlg_no rfl ?_
        refine wlg_no rfl ?_
        refine wl (ro_pick rfl rfl rfl) ?_
        refine wl (ro_move rfl) ?_
        refine wlg_yes rfl (ro_move rfl) ?_
        refine wlg_yes rfl (ro_cmp (r := false) rfl rfl (congrArg some (decide_eq_false (by omega)))) ?_
        refine wlg_yes rfl (ro_move rfl) ?_
        refine wlg_no rfl ?_
        refine wlg_no rfl ?_
        refine wlg_yes rfl (ro_pick rfl rfl rfl) ?_
        refine wl (ro_pick rfl rfl rfl) ?_
        refine wl (ro_move rfl) ?_
        refine wlg_yes rfl (ro_move rfl) ?_
        refine wlg_yes rfl (ro_cmp (r := false) rfl rfl (congrArg some (decide_eq_false (by omega)))) ?_
        refine wlg_yes rfl (ro_move rfl) ?_
        refine wlg_no rfl ?_
        refine wlg_no rfl ?_
        refine wlg_yes rfl (ro_pick rfl rfl rfl) ?_
        refine wl (ro_pick rfl rfl rfl) ?_
        refine wl_nil (x_then (hK17 _ _ ?_))
        clear hK17 K17
        refine wc_condF rfl ?_
        refine c_skip (x_blk (x_then (hK11 _ _ ?_)))
        clear hK11 K11
        refine forget [(2, _), (9, _)] ⟨rfl, rfl, trivial⟩ (fun e => ?_)
        refine c_seq (fun K18 hK18 => ?_)
        refine c_reg ?_ -- region 31 class.go:116
        refine wl (ro_move rfl) ?_
        refine wl (ro_move rfl) ?_
        refine wl_call rfl en_128 (between128) ?_
        rintro _ w6 ⟨rfl, F6⟩
        replace hF := hF.thenDrew.thenN F6
        replace hB := F6.blkN hB
        replace hM := F6.blkN hM
        replace hA := F6.blkN hA
        refine wl (ro_move rfl) ?_
        refine wl_puta rfl rfl (by simp [Value.oneCell', i64c, u64c, u8c, ptr]) sz_87 (rfl) hM ((by simp)) (rfl) (fun w7 hM F7 => ?_)
        replace hF := hF.thenDrew.thenO F7 (by first | exact .inr (by omega) | exact .inl rfl | exact .inl (by assumption))
        replace hB := F7.blkO hB (by omega)
        replace hA := F7.blkO hA (by omega)
        refine wl (ro_assign rfl) ?_
        refine wl (ro_assign rfl) ?_
        refine wl_nil (x_then (hK18 _ _ ?_))
        clear hK18 K18
        refine c_ret ?_
        refine bq_ret (res3 Tryz.results126 (rv_c rfl ag_87 (hM) rfl) (rv_t rfl) (rv_t rfl)) ?_
        exact ⟨EP.ok (b := c) (j := σ.i + 2) hB V2 rfl, hF⟩
      · rw [isAln_t (by omega), if_pos rfl]
        simp only
        refine ret_of Tryz.func126 rfl Tryz.ntmps126 rfl ?_
        refine c_seq (fun K1 hK1 => ?_)
        refine c_reg ?_ -- region 0 class.go:78
        refine wl_new (ze_87) (fun mb w1 hbmb hM F1 => ?_)
        have hbsmb := Nat.le_trans hF.size hbmb
        have hnexbmb : xb < mb := Nat.lt_of_lt_of_le hB.lt hbmb
        replace hF := hF.thenDrew.thenN F1
        replace hB := F1.blkN hB
        refine wl (ro_assign rfl) ?_
        refine wl (ro_assign rfl) ?_
        refine wl_nil (x_then (hK1 _ _ ?_))
        clear hK1 K1
        refine forget [(0, _), (2, _)] ⟨rfl, rfl, trivial⟩ (fun e => ?_)
        refine c_seq (fun K2 hK2 => ?_)
        refine c_reg ?_ -- region 1 class.go:79
        refine wl (ro_move rfl) ?_
        refine wl (ro_nilCheck rfl) ?_
        refine wl (ro_fieldAddr (k := 1) rfl fo_96_1) ?_
        refine wl (ro_loadB rfl sc_3 (hB) (cel_get' (by omega) V.i1)) ?_
        refine wl (ro_assign rfl) ?_
        refine wl_nil (x_then (hK2 _ _ ?_))
        clear hK2 K2
        refine c_seq (fun K3 hK3 => ?_)
        refine c_seq (fun K4 hK4 => ?_)
        refine c_reg ?_ -- region 2 class.go:80
        refine wl (ro_move rfl) ?_
        refine wl (ro_arith rfl rfl rfl (Go.IntWalk.i64_in _ (by omega))) ?_
        refine wl (ro_move rfl) ?_
        refine wl (ro_nilCheck rfl) ?_
        refine wl (ro_fieldAddr (k := 0) rfl fo_96_0) ?_
        refine wl (ro_loadB rfl sc_9 (hB) (cel_get' (by omega) V.p0)) ?_
        refine wl (ro_lenS rfl st_9) ?_
        refine wl (ro_cmp (r := false) rfl rfl (congrArg some (decide_eq_false (by omega)))) ?_
        refine wl_nil (x_then (hK4 _ _ ?_))
        clear hK4 K4
        refine wc_condF rfl ?_
        refine c_skip (x_then (hK3 _ _ ?_))
        clear hK3 K3
        refine forget [(0, _), (2, _), (5, _)] ⟨rfl, rfl, rfl, trivial⟩ (fun e => ?_)
        refine c_seq (fun K5 hK5 => ?_)
        refine c_reg ?_ -- region 5 class.go:84
        refine wl (ro_move rfl) ?_
        refine wl (ro_nilCheck rfl) ?_
        refine wl (ro_fieldAddr (k := 0) rfl fo_96_0) ?_
        refine wl (ro_loadB rfl sc_9 (hB) (cel_get' (by omega) V.p0)) ?_
        refine wl (ro_move rfl) ?_
        refine wl (ro_arith rfl rfl rfl (Go.IntWalk.i64_in _ (by omega))) ?_
        refine wl (ro_indexS rfl rfl st_9 ((show _ = ((σ.i + 1 : Nat) : Int) by omega)) (hc)) ?_
        refine wl (ro_assign rfl) ?_
        refine wl_nil (x_then (hK5 _ _ ?_))
        clear hK5 K5
        refine forget [(0, _), (2, _), (5, _), (6, _)] ⟨rfl, rfl, rfl, rfl, trivial⟩ (fun e => ?_)
        refine c_seq (fun K6 hK6 => ?_)
        refine c_reg ?_ -- region 6 class.go:85
        refine wl (ro_move rfl) ?_
        refine wl (ro_move rfl) ?_
        refine wl (ro_arith rfl rfl rfl (Go.IntWalk.i64_in _ (by omega))) ?_
        refine wl (ro_nilCheck rfl) ?_
        refine wl (ro_fieldAddr (k := 1) rfl fo_96_1) ?_
        refine wl_put rfl rfl rfl sz_3 hB ((cel_lt (by omega))) ((cel_put 1 (by omega))) (fun w2 hB F2 => ?_)
        replace hF := hF.thenDrew.thenO F2 (by first | exact .inr (by omega) | exact .inl rfl | exact .inl (by assumption))
        replace hM := F2.blkO hM (by omega)
        refine wl_nil (x_then (hK6 _ _ ?_))
        clear hK6 K6
        refine forget [(0, _), (2, _), (5, _), (6, _)] ⟨rfl, rfl, rfl, rfl, trivial⟩ (fun e => ?_)
        refine c_seq (fun K7 hK7 => ?_)
        refine c_reg ?_ -- region 7 class.go:86
        refine wl (ro_move rfl) ?_
        refine wl_call rfl en_141 (named141) ?_
        rintro _ w3 ⟨rfl, F3⟩
        replace hF := hF.thenDrew.thenN F3
        replace hB := F3.blkN hB
        replace hM := F3.blkN hM
        refine wl (ro_move rfl) ?_
        refine wl (ro_extract rfl rfl) ?_
        refine wl (ro_extract rfl rfl) ?_
        rw [hn]
        refine wl_new (ze_87) (fun ab w4 hbab hA F4 => ?_)
        have hbsab := Nat.le_trans hF.size hbab
        have hnexbab : xb < ab := Nat.lt_of_lt_of_le hB.lt hbab
        have hnembab : mb < ab := Nat.lt_of_lt_of_le hM.lt hbab
        replace hF := hF.thenDrew.thenN F4
        replace hB := F4.blkN hB
        replace hM := F4.blkN hM
        refine wl_puta rfl rfl (by simp [Value.oneCell', i64c, u64c, u8c, ptr]) sz_87 (rfl) hA ((by simp)) (rfl) (fun w5 hA F5 => ?_)
        replace hF := hF.thenDrew.thenO F5 (by first | exact .inr (by omega) | exact .inl rfl | exact .inl (by assumption))
        replace hB := F5.blkO hB (by omega)
        replace hM := F5.blkO hM (by omega)
        refine wl (ro_assign rfl) ?_
        refine wl_nil (x_then (hK7 _ _ ?_))
        clear hK7 K7
        refine c_seq (fun K8 hK8 => ?_)
        refine c_seq (fun K9 hK9 => ?_)
        refine c_reg ?_ -- region 8 class.go:87
        refine wl (ro_move rfl) ?_
        refine wl_nil (x_then (hK9 _ _ ?_))
        clear hK9 K9
        refine wc_condF rfl ?_
        refine c_skip (x_then (hK8 _ _ ?_))
        clear hK8 K8
        refine forget [(0, _), (2, _), (5, _), (6, _)] ⟨rfl, rfl, rfl, rfl, trivial⟩ (fun e => ?_)
        refine c_seq (fun K10 hK10 => ?_)
        refine c_reg ?_ -- region 10 class.go:90
        refine wl (ro_move rfl) ?_
        refine wl (ro_assign rfl) ?_
        refine wl_nil (x_then (hK10 _ _ ?_))
        clear hK10 K10
        refine c_seq (fun K11 hK11 => ?_)
        refine c_seq (fun K12 hK12 => ?_)
        refine c_reg ?_ -- region 11 class.go:91
        refine wl (ro_move rfl) ?_
        refine wl_nil (x_then (hK12 _ _ ?_))
        clear hK12 K12
        refine c_block ?_
        refine forget [(0, _), (2, _), (5, _), (6, _), (9, _), (48, _)] ⟨rfl, rfl, rfl, rfl, rfl, rfl, trivial⟩ (fun e => ?_)
        refine c_seq (fun K13 hK13 => ?_)
        refine c_reg ?_ -- region 15 class.go:92
        refine wl (ro_cmp (r := false) rfl rfl (congrArg some ((u8eq c 110).trans (decide_eq_false h110)))) ?_
        refine wl (ro_assign rfl) ?_
        refine wl_nil (x_then (hK13 _ _ ?_))
        clear hK13 K13
        refine wc_condF rfl ?_
        refine c_seq (fun K14 hK14 => ?_)
        refine c_reg ?_ -- region 17 class.go:94
        refine wl (ro_cmp (r := false) rfl rfl (congrArg some ((u8eq c 116).trans (decide_eq_false h116)))) ?_
        refine wl (ro_assign rfl) ?_
        refine wl_nil (x_then (hK14 _ _ ?_))
        clear hK14 K14
        refine wc_condF rfl ?_
        refine c_seq (fun K15 hK15 => ?_)
        refine c_reg ?_ -- region 19 class.go:96
        refine wl (ro_cmp (r := false) rfl rfl (congrArg some ((u8eq c 114).trans (decide_eq_false h114)))) ?_
        refine wl (ro_assign rfl) ?_
        refine wl_nil (x_then (hK15 _ _ ?_))
        clear hK15 K15
        refine wc_condF rfl ?_
        refine c_seq (fun K16 hK16 => ?_)
        refine c_reg ?_ -- region 21 class.go:98
        refine wl (ro_cmp (r := false) rfl rfl (congrArg some ((u8eq c 120).trans (decide_eq_false h120)))) ?_
        refine wl (ro_assign rfl) ?_
        refine wl_nil (x_then (hK16 _ _ ?_))
        clear hK16 K16
        refine wc_condF rfl ?_
        refine c_seq (fun K17 hK17 => ?_)
        refine c_reg ?_ -- region 12 class.go:111
        refine wl (ro_move rfl) ?_
        refine wl (ro_cmp (r := true) rfl rfl (congrArg some (decide_eq_true (by omega)))) ?_
        refine wl (ro_move rfl) ?_
        refine wlg_yes rfl (ro_move rfl) ?_
        refine wlg_yes rfl (ro_cmp (r := true) rfl rfl (congrArg some (decide_eq_true (by omega)))) ?_
        refine wl (ro_pick rfl rfl rfl) ?_
        refine wl (ro_move rfl) ?_
        refine wlg_no rfl ?_
        refine wlg_no rfl ?_
        refine wlg_no rfl ?_
        refine wlg_no rfl ?_
        refine wlg_no rfl ?_
        refine wlg_no rfl ?_
        refine wl (ro_pick rfl rfl rfl) ?_
        refine wl (ro_move rfl) ?_
        refine wlg_no rfl ?_
        refine wlg_no rfl ?_
        refine wlg_no rfl ?_
        refine wlg_no rfl ?_
        refine wlg_no rfl ?_
        refine wlg_no rfl ?_
        refine wl (ro_pick rfl rfl rfl) ?_
        refine wl_nil (x_then (hK17 _ _ ?_))
        clear hK17 K17
        refine wc_condT rfl ?_
        refine c_seq (fun K18 hK18 => ?_)
        refine c_reg ?_ -- region 13 class.go:112
        refine wl (ro_move rfl) ?_
        refine wl (ro_move rfl) ?_
        refine wl_call rfl en_97 (fail97 hB) ?_
        rintro _ w9 ⟨rfl, hB, F9⟩
        replace hF := hF.trans F9
        replace hM := F9.blkO hM (by omega)
        replace hA := F9.blkO hA (by omega)
        refine wl_nil (x_then (hK18 _ _ ?_))
        clear hK18 K18
        refine forget [(2, _)] ⟨rfl, trivial⟩ (fun e => ?_)
        refine c_seq (fun K19 hK19 => ?_)
        refine c_reg ?_ -- region 14 class.go:113
        refine wl (ro_build rfl bld_87) ?_
        rw [zeroS]
        refine wl_puta rfl rfl (by simp [Value.oneCell', i64c, u64c, u8c, ptr]) sz_87 (rfl) hM ((by simp)) (rfl) (fun w6 hM F6 => ?_)
        replace hF := hF.thenDrew.thenO F6 (by first | exact .inr (by omega) | exact .inl rfl | exact .inl (by assumption))
        replace hB := F6.blkO hB (by omega)
        replace hA := F6.blkO hA (by omega)
        refine wl (ro_assign rfl) ?_
        refine wl (ro_assign rfl) ?_
        refine wl_nil (x_then (hK19 _ _ ?_))
        clear hK19 K19
        refine c_ret (x_blkR (x_thenR ?_))
        refine bq_ret (res3 Tryz.results126 (rv_c rfl ag_87 (hM) rfl) (rv_t rfl) (rv_t rfl)) ?_
        exact ⟨EP.er (i := σ.i) hB (err97 V2) rfl, hF⟩
      · rw [isAln_f (by omega), if_neg (by simp)]
        simp only
        refine ret_of Tryz.func126 rfl Tryz.ntmps126 rfl ?_
        refine c_seq (fun K1 hK1 => ?_)
        refine c_reg ?_ -- region 0 class.go:78
        refine wl_new (ze_87) (fun mb w1 hbmb hM F1 => ?_)
        have hbsmb := Nat.le_trans hF.size hbmb
        have hnexbmb : xb < mb := Nat.lt_of_lt_of_le hB.lt hbmb
        replace hF := hF.thenDrew.thenN F1
        replace hB := F1.blkN hB
        refine wl (ro_assign rfl) ?_
        refine wl (ro_assign rfl) ?_
        refine wl_nil (x_then (hK1 _ _ ?_))
        clear hK1 K1
        refine forget [(0, _), (2, _)] ⟨rfl, rfl, trivial⟩ (fun e => ?_)
        refine c_seq (fun K2 hK2 => ?_)
        refine c_reg ?_ -- region 1 class.go:79
        refine wl (ro_move rfl) ?_
        refine wl (ro_nilCheck rfl) ?_
        refine wl (ro_fieldAddr (k := 1) rfl fo_96_1) ?_
        refine wl (ro_loadB rfl sc_3 (hB) (cel_get' (by omega) V.i1)) ?_
        refine wl (ro_assign rfl) ?_
        refine wl_nil (x_then (hK2 _ _ ?_))
        clear hK2 K2
        refine c_seq (fun K3 hK3 => ?_)
        refine c_seq (fun K4 hK4 => ?_)
        refine c_reg ?_ -- region 2 class.go:80
        refine wl (ro_move rfl) ?_
        refine wl (ro_arith rfl rfl rfl (Go.IntWalk.i64_in _ (by omega))) ?_
        refine wl (ro_move rfl) ?_
        refine wl (ro_nilCheck rfl) ?_
        refine wl (ro_fieldAddr (k := 0) rfl fo_96_0) ?_
        refine wl (ro_loadB rfl sc_9 (hB) (cel_get' (by omega) V.p0)) ?_
        refine wl (ro_lenS rfl st_9) ?_
        refine wl (ro_cmp (r := false) rfl rfl (congrArg some (decide_eq_false (by omega)))) ?_
        refine wl_nil (x_then (hK4 _ _ ?_))
        clear hK4 K4
        refine wc_condF rfl ?_
        refine c_skip (x_then (hK3 _ _ ?_))
        clear hK3 K3
        refine forget [(0, _), (2, _), (5, _)] ⟨rfl, rfl, rfl, trivial⟩ (fun e => ?_)
        refine c_seq (fun K5 hK5 => ?_)
        refine c_reg ?_ -- region 5 class.go:84
        refine wl (ro_move rfl) ?_
        refine wl (ro_nilCheck rfl) ?_
        refine wl (ro_fieldAddr (k := 0) rfl fo_96_0) ?_
        refine wl (ro_loadB rfl sc_9 (hB) (cel_get' (by omega) V.p0)) ?_
        refine wl (ro_move rfl) ?_
        refine wl (ro_arith rfl rfl rfl (Go.IntWalk.i64_in _ (by omega))) ?_
        refine wl (ro_indexS rfl rfl st_9 ((show _ = ((σ.i + 1 : Nat) : Int) by omega)) (hc)) ?_
        refine wl (ro_assign rfl) ?_
        refine wl_nil (x_then (hK5 _ _ ?_))
        clear hK5 K5
        refine forget [(0, _), (2, _), (5, _), (6, _)] ⟨rfl, rfl, rfl, rfl, trivial⟩ (fun e => ?_)
        refine c_seq (fun K6 hK6 => ?_)
        refine c_reg ?_ -- region 6 class.go:85
        refine wl (ro_move rfl) ?_
        refine wl (ro_move rfl) ?_
        refine wl (ro_arith rfl rfl rfl (Go.IntWalk.i64_in _ (by omega))) ?_
        refine wl (ro_nilCheck rfl) ?_
        refine wl (ro_fieldAddr (k := 1) rfl fo_96_1) ?_
        refine wl_put rfl rfl rfl sz_3 hB ((cel_lt (by omega))) ((cel_put 1 (by omega))) (fun w2 hB F2 => ?_)
        replace hF := hF.thenDrew.thenO F2 (by first | exact .inr (by omega) | exact .inl rfl | exact .inl (by assumption))
        replace hM := F2.blkO hM (by omega)
        refine wl_nil (x_then (hK6 _ _ ?_))
        clear hK6 K6
        refine forget [(0, _), (2, _), (5, _), (6, _)] ⟨rfl, rfl, rfl, rfl, trivial⟩ (fun e => ?_)
        refine c_seq (fun K7 hK7 => ?_)
        refine c_reg ?_ -- region 7 class.go:86
        refine wl (ro_move rfl) ?_
        refine wl_call rfl en_141 (named141) ?_
        rintro _ w3 ⟨rfl, F3⟩
        replace hF := hF.thenDrew.thenN F3
        replace hB := F3.blkN hB
        replace hM := F3.blkN hM
        refine wl (ro_move rfl) ?_
        refine wl (ro_extract rfl rfl) ?_
        refine wl (ro_extract rfl rfl) ?_
        rw [hn]
        refine wl_new (ze_87) (fun ab w4 hbab hA F4 => ?_)
        have hbsab := Nat.le_trans hF.size hbab
        have hnexbab : xb < ab := Nat.lt_of_lt_of_le hB.lt hbab
        have hnembab : mb < ab := Nat.lt_of_lt_of_le hM.lt hbab
        replace hF := hF.thenDrew.thenN F4
        replace hB := F4.blkN hB
        replace hM := F4.blkN hM
        refine wl_puta rfl rfl (by simp [Value.oneCell', i64c, u64c, u8c, ptr]) sz_87 (rfl) hA ((by simp)) (rfl) (fun w5 hA F5 => ?_)
        replace hF := hF.thenDrew.thenO F5 (by first | exact .inr (by omega) | exact .inl rfl | exact .inl (by assumption))
        replace hB := F5.blkO hB (by omega)
        replace hM := F5.blkO hM (by omega)
        refine wl (ro_assign rfl) ?_
        refine wl_nil (x_then (hK7 _ _ ?_))
        clear hK7 K7
        refine c_seq (fun K8 hK8 => ?_)
        refine c_seq (fun K9 hK9 => ?_)
        refine c_reg ?_ -- region 8 class.go:87
        refine wl (ro_move rfl) ?_
        refine wl_nil (x_then (hK9 _ _ ?_))
        clear hK9 K9
        refine wc_condF rfl ?_
        refine c_skip (x_then (hK8 _ _ ?_))
        clear hK8 K8
        refine forget [(0, _), (2, _), (5, _), (6, _)] ⟨rfl, rfl, rfl, rfl, trivial⟩ (fun e => ?_)
        refine c_seq (fun K10 hK10 => ?_)
        refine c_reg ?_ -- region 10 class.go:90
        refine wl (ro_move rfl) ?_
        refine wl (ro_assign rfl) ?_
        refine wl_nil (x_then (hK10 _ _ ?_))
        clear hK10 K10
        refine c_seq (fun K11 hK11 => ?_)
        refine c_seq (fun K12 hK12 => ?_)
        refine c_reg ?_ -- region 11 class.go:91
        refine wl (ro_move rfl) ?_
        refine wl_nil (x_then (hK12 _ _ ?_))
        clear hK12 K12
        refine c_block ?_
        refine forget [(0, _), (2, _), (5, _), (6, _), (9, _), (48, _)] ⟨rfl, rfl, rfl, rfl, rfl, rfl, trivial⟩ (fun e => ?_)
        refine c_seq (fun K13 hK13 => ?_)
        refine c_reg ?_ -- region 15 class.go:92
        refine wl (ro_cmp (r := false) rfl rfl (congrArg some ((u8eq c 110).trans (decide_eq_false h110)))) ?_
        refine wl (ro_assign rfl) ?_
        refine wl_nil (x_then (hK13 _ _ ?_))
        clear hK13 K13
        refine wc_condF rfl ?_
        refine c_seq (fun K14 hK14 => ?_)
        refine c_reg ?_ -- region 17 class.go:94
        refine wl (ro_cmp (r := false) rfl rfl (congrArg some ((u8eq c 116).trans (decide_eq_false h116)))) ?_
        refine wl (ro_assign rfl) ?_
        refine wl_nil (x_then (hK14 _ _ ?_))
        clear hK14 K14
        refine wc_condF rfl ?_
        refine c_seq (fun K15 hK15 => ?_)
        refine c_reg ?_ -- region 19 class.go:96
        refine wl (ro_cmp (r := false) rfl rfl (congrArg some ((u8eq c 114).trans (decide_eq_false h114)))) ?_
        refine wl (ro_assign rfl) ?_
        refine wl_nil (x_then (hK15 _ _ ?_))
        clear hK15 K15
        refine wc_condF rfl ?_
        refine c_seq (fun K16 hK16 => ?_)
        refine c_reg ?_ -- region 21 class.go:98
        refine wl (ro_cmp (r := false) rfl rfl (congrArg some ((u8eq c 120).trans (decide_eq_false h120)))) ?_
        refine wl (ro_assign rfl) ?_
        refine wl_nil (x_then (hK16 _ _ ?_))
        clear hK16 K16
        refine wc_condF rfl ?_
        refine c_seq (fun K17 hK17 => ?_)
        refine c_reg ?_ -- region 12 class.go:111
        refine wl (ro_move rfl) ?_
        refine wl (ro_cmp (r := true) rfl rfl (congrArg some (decide_eq_true (by omega)))) ?_
        refine wl (ro_move rfl) ?_
        refine wlg_yes rfl (ro_move rfl) ?_
        refine wlg_yes rfl (ro_cmp (r := false) rfl rfl (congrArg some (decide_eq_false (by omega)))) ?_
        refine wl (ro_pick rfl rfl rfl) ?_
        refine wl (ro_move rfl) ?_
        refine wlg_yes rfl (ro_move rfl) ?_
        refine wlg_yes rfl (ro_cmp (r := false) rfl rfl (congrArg some (decide_eq_false (by omega)))) ?_
        refine wlg_yes rfl (ro_move rfl) ?_
        refine wlg_no rfl ?_
        refine wlg_no rfl ?_
        refine wlg_yes rfl (ro_pick rfl rfl rfl) ?_
        refine wl (ro_pick rfl rfl rfl) ?_
        refine wl (ro_move rfl) ?_
        refine wlg_yes rfl (ro_move rfl) ?_
        refine wlg_yes rfl (ro_cmp (r := false) rfl rfl (congrArg some (decide_eq_false (by omega)))) ?_
        refine wlg_yes rfl (ro_move rfl) ?_
        refine wlg_no rfl ?_
        refine wlg_no rfl ?_
        refine wlg_yes rfl (ro_pick rfl rfl rfl) ?_
        refine wl (ro_pick rfl rfl rfl) ?_
        refine wl_nil (x_then (hK17 _ _ ?_))
        clear hK17 K17
        refine wc_condF rfl ?_
        refine c_skip (x_blk (x_then (hK11 _ _ ?_)))
        clear hK11 K11
        refine forget [(2, _), (9, _)] ⟨rfl, rfl, trivial⟩ (fun e => ?_)
        refine c_seq (fun K18 hK18 => ?_)
        refine c_reg ?_ -- region 31 class.go:116
        refine wl (ro_move rfl) ?_
        refine wl (ro_move rfl) ?_
        refine wl_call rfl en_128 (between128) ?_
        rintro _ w6 ⟨rfl, F6⟩
        replace hF := hF.thenDrew.thenN F6
        replace hB := F6.blkN hB
        replace hM := F6.blkN hM
        replace hA := F6.blkN hA
        refine wl (ro_move rfl) ?_
        refine wl_puta rfl rfl (by simp [Value.oneCell', i64c, u64c, u8c, ptr]) sz_87 (rfl) hM ((by simp)) (rfl) (fun w7 hM F7 => ?_)
        replace hF := hF.thenDrew.thenO F7 (by first | exact .inr (by omega) | exact .inl rfl | exact .inl (by assumption))
        replace hB := F7.blkO hB (by omega)
        replace hA := F7.blkO hA (by omega)
        refine wl (ro_assign rfl) ?_
        refine wl (ro_assign rfl) ?_
        refine wl_nil (x_then (hK18 _ _ ?_))
        clear hK18 K18
        refine c_ret ?_
        refine bq_ret (res3 Tryz.results126 (rv_c rfl ag_87 (hM) rfl) (rv_t rfl) (rv_t rfl)) ?_
        exact ⟨EP.ok (b := c) (j := σ.i + 2) hB V2 rfl, hF⟩
      · rw [isAln_t (by omega), if_pos rfl]
        simp only
        refine ret_of Tryz.func126 rfl Tryz.ntmps126 rfl ?_
        refine c_seq (fun K1 hK1 => ?_)
        refine c_reg ?_ -- region 0 class.go:78
        refine wl_new (ze_87) (fun mb w1 hbmb hM F1 => ?_)
        have hbsmb := Nat.le_trans hF.size hbmb
        have hnexbmb : xb < mb := Nat.lt_of_lt_of_le hB.lt hbmb
        replace hF := hF.thenDrew.thenN F1
        replace hB := F1.blkN hB
        refine wl (ro_assign rfl) ?_
        refine wl (ro_assign rfl) ?_
        refine wl_nil (x_then (hK1 _ _ ?_))
        clear hK1 K1
        refine forget [(0, _), (2, _)] ⟨rfl, rfl, trivial⟩ (fun e => ?_)
        refine c_seq (fun K2 hK2 => ?_)
        refine c_reg ?_ -- region 1 class.go:79
        refine wl (ro_move rfl) ?_
        refine wl (ro_nilCheck rfl) ?_
        refine wl (ro_fieldAddr (k := 1) rfl fo_96_1) ?_
        refine wl (ro_loadB rfl sc_3 (hB) (cel_get' (by omega) V.i1)) ?_
        refine wl (ro_assign rfl) ?_
        refine wl_nil (x_then (hK2 _ _ ?_))
        clear hK2 K2
        refine c_seq (fun K3 hK3 => ?_)
        refine c_seq (fun K4 hK4 => ?_)
        refine c_reg ?_ -- region 2 class.go:80
        refine wl (ro_move rfl) ?_
        refine wl (ro_arith rfl rfl rfl (Go.IntWalk.i64_in _ (by omega))) ?_
        refine wl (ro_move rfl) ?_
        refine wl (ro_nilCheck rfl) ?_
        refine wl (ro_fieldAddr (k := 0) rfl fo_96_0) ?_
        refine wl (ro_loadB rfl sc_9 (hB) (cel_get' (by omega) V.p0)) ?_
        refine wl (ro_lenS rfl st_9) ?_
        refine wl (ro_cmp (r := false) rfl rfl (congrArg some (decide_eq_false (by omega)))) ?_
        refine wl_nil (x_then (hK4 _ _ ?_))
        clear hK4 K4
        refine wc_condF rfl ?_
        refine c_skip (x_then (hK3 _ _ ?_))
        clear hK3 K3
        refine forget [(0, _), (2, _), (5, _)] ⟨rfl, rfl, rfl, trivial⟩ (fun e => ?_)
        refine c_seq (fun K5 hK5 => ?_)
        refine c_reg ?_ -- region 5 class.go:84
        refine wl (ro_move rfl) ?_
        refine wl (ro_nilCheck rfl) ?_
        refine wl (ro_fieldAddr (k := 0) rfl fo_96_0) ?_
        refine wl (ro_loadB rfl sc_9 (hB) (cel_get' (by omega) V.p0)) ?_
        refine wl (ro_move rfl) ?_
        refine wl (ro_arith rfl rfl rfl (Go.IntWalk.i64_in _ (by omega))) ?_
        refine wl (ro_indexS rfl rfl st_9 ((show _ = ((σ.i + 1 : Nat) : Int) by omega)) (hc)) ?_
        refine wl (ro_assign rfl) ?_
        refine wl_nil (x_then (hK5 _ _ ?_))
        clear hK5 K5
        refine forget [(0, _), (2, _), (5, _), (6, _)] ⟨rfl, rfl, rfl, rfl, trivial⟩ (fun e => ?_)
        refine c_seq (fun K6 hK6 => ?_)
        refine c_reg ?_ -- region 6 class.go:85
        refine wl (ro_move rfl) ?_
        refine wl (ro_move rfl) ?_
        refine wl (ro_arith rfl rfl rfl (Go.IntWalk.i64_in _ (by omega))) ?_
        refine wl (ro_nilCheck rfl) ?_
        refine wl (ro_fieldAddr (k := 1) rfl fo_96_1) ?_
        refine wl_put rfl rfl rfl sz_3 hB ((cel_lt (by omega))) ((cel_put 1 (by omega))) (fun w2 hB F2 => ?_)
        replace hF := hF.thenDrew.thenO F2 (by first | exact .inr (by omega) | exact .inl rfl | exact .inl (by assumption))
        replace hM := F2.blkO hM (by omega)
        refine wl_nil (x_then (hK6 _ _ ?_))
        clear hK6 K6
        refine forget [(0, _), (2, _), (5, _), (6, _)] ⟨rfl, rfl, rfl, rfl, trivial⟩ (fun e => ?_)
        refine c_seq (fun K7 hK7 => ?_)
        refine c_reg ?_ -- region 7 class.go:86
        refine wl (ro_move rfl) ?_
        refine wl_call rfl en_141 (named141) ?_
        rintro _ w3 ⟨rfl, F3⟩
        replace hF := hF.thenDrew.thenN F3
        replace hB := F3.blkN hB
        replace hM := F3.blkN hM
        refine wl (ro_move rfl) ?_
        refine wl (ro_extract rfl rfl) ?_
        refine wl (ro_extract rfl rfl) ?_
        rw [hn]
        refine wl_new (ze_87) (fun ab w4 hbab hA F4 => ?_)
        have hbsab := Nat.le_trans hF.size hbab
        have hnexbab : xb < ab := Nat.lt_of_lt_of_le hB.lt hbab
        have hnembab : mb < ab := Nat.lt_of_lt_of_le hM.lt hbab
        replace hF := hF.thenDrew.thenN F4
        replace hB := F4.blkN hB
        replace hM := F4.blkN hM
        refine wl_puta rfl rfl (by simp [Value.oneCell', i64c, u64c, u8c, ptr]) sz_87 (rfl) hA ((by simp)) (rfl) (fun w5 hA F5 => ?_)
        replace hF := hF.thenDrew.thenO F5 (by first | exact .inr (by omega) | exact .inl rfl | exact .inl (by assumption))
        replace hB := F5.blkO hB (by omega)
        replace hM := F5.blkO hM (by omega)
        refine wl (ro_assign rfl) ?_
        refine wl_nil (x_then (hK7 _ _ ?_))
        clear hK7 K7
        refine c_seq (fun K8 hK8 => ?_)
        refine c_seq (fun K9 hK9 => ?_)
        refine c_reg ?_ -- region 8 class.go:87
        refine wl (ro_move rfl) ?_
        refine wl_nil (x_then (hK9 _ _ ?_))
        clear hK9 K9
        refine wc_condF rfl ?_
        refine c_skip (x_then (hK8 _ _ ?_))
        clear hK8 K8
        refine forget [(0, _), (2, _), (5, _), (6, _)] ⟨rfl, rfl, rfl, rfl, trivial⟩ (fun e => ?_)
        refine c_seq (fun K10 hK10 => ?_)
        refine c_reg ?_ -- region 10 class.go:90
        refine wl (ro_move rfl) ?_
        refine wl (ro_assign rfl) ?_
        refine wl_nil (x_then (hK10 _ _ ?_))
        clear hK10 K10
        refine c_seq (fun K11 hK11 => ?_)
        refine c_seq (fun K12 hK12 => ?_)
        refine c_reg ?_ -- region 11 class.go:91
        refine wl (ro_move rfl) ?_
        refine wl_nil (x_then (hK12 _ _ ?_))
        clear hK12 K12
        refine c_block ?_
        refine forget [(0, _), (2, _), (5, _), (6, _), (9, _), (48, _)] ⟨rfl, rfl, rfl, rfl, rfl, rfl, trivial⟩ (fun e => ?_)
        refine c_seq (fun K13 hK13 => ?_)
        refine c_reg ?_ -- region 15 class.go:92
        refine wl (ro_cmp (r := false) rfl rfl (congrArg some ((u8eq c 110).trans (decide_eq_false h110)))) ?_
        refine wl (ro_assign rfl) ?_
        refine wl_nil (x_then (hK13 _ _ ?_))
        clear hK13 K13
        refine wc_condF rfl ?_
        refine c_seq (fun K14 hK14 => ?_)
        refine c_reg ?_ -- region 17 class.go:94
        refine wl (ro_cmp (r := false) rfl rfl (congrArg some ((u8eq c 116).trans (decide_eq_false h116)))) ?_
        refine wl (ro_assign rfl) ?_
        refine wl_nil (x_then (hK14 _ _ ?_))
        clear hK14 K14
        refine wc_condF rfl ?_
        refine c_seq (fun K15 hK15 => ?_)
        refine c_reg ?_ -- region 19 class.go:96
        refine wl (ro_cmp (r := false) rfl rfl (congrArg some ((u8eq c 114).trans (decide_eq_false h114)))) ?_
        refine wl (ro_assign rfl) ?_
        refine wl_nil (x_then (hK15 _ _ ?_))
        clear hK15 K15
        refine wc_condF rfl ?_
        refine c_seq (fun K16 hK16 => ?_)
        refine c_reg ?_ -- region 21 class.go:98
        refine wl (ro_cmp (r := false) rfl rfl (congrArg some ((u8eq c 120).trans (decide_eq_false h120)))) ?_
        refine wl (ro_assign rfl) ?_
        refine wl_nil (x_then (hK16 _ _ ?_))
        clear hK16 K16
        refine wc_condF rfl ?_
        refine c_seq (fun K17 hK17 => ?_)
        refine c_reg ?_ -- region 12 class.go:111
        refine wl (ro_move rfl) ?_
        refine wl (ro_cmp (r := true) rfl rfl (congrArg some (decide_eq_true (by omega)))) ?_
        refine wl (ro_move rfl) ?_
        refine wlg_yes rfl (ro_move rfl) ?_
        refine wlg_yes rfl (ro_cmp (r := false) rfl rfl (congrArg some (decide_eq_false (by omega)))) ?_
        refine wl (ro_pick rfl rfl rfl) ?_
        refine wl (ro_move rfl) ?_
        refine wlg_yes rfl (ro_move rfl) ?_
        refine wlg_yes rfl (ro_cmp (r := true) rfl rfl (congrArg some (decide_eq_true (by omega)))) ?_
        refine wlg_yes rfl (ro_move rfl) ?_
        refine wlg_yes rfl (ro_move rfl) ?_
        refine wlg_yes rfl (ro_cmp (r := true) rfl rfl (congrArg some (decide_eq_true (by omega)))) ?_
        refine wlg_yes rfl (ro_pick rfl rfl rfl) ?_
        refine wl (ro_pick rfl rfl rfl) ?_
        refine wl (ro_move rfl) ?_
        refine wlg_no rfl ?_
        refine wlg_no rfl ?_
        refine wlg_no rfl ?_
        refine wlg_no rfl ?_
        refine wlg_no rfl ?_
        refine wlg_no rfl ?_
        refine wl (ro_pick rfl rfl rfl) ?_
        refine wl_nil (x_then (hK17 _ _ ?_))
        clear hK17 K17
        refine wc_condT rfl ?_
        refine c_seq (fun K18 hK18 => ?_)
        refine c_reg ?_ -- region 13 class.go:112
        refine wl (ro_move rfl) ?_
        refine wl (ro_move rfl) ?_
        refine wl_call rfl en_97 (fail97 hB) ?_
        rintro _ w9 ⟨rfl, hB, F9⟩
        replace hF := hF.trans F9
        replace hM := F9.blkO hM (by omega)
        replace hA := F9.blkO hA (by omega)
        refine wl_nil (x_then (hK18 _ _ ?_))
        clear hK18 K18
        refine forget [(2, _)] ⟨rfl, trivial⟩ (fun e => ?_)
        refine c_seq (fun K19 hK19 => ?_)
        refine c_reg ?_ -- region 14 class.go:113
        refine wl (ro_build rfl bld_87) ?_
        rw [zeroS]
        refine wl_puta rfl rfl (by simp [Value.oneCell', i64c, u64c, u8c, ptr]) sz_87 (rfl) hM ((by simp)) (rfl) (fun w6 hM F6 => ?_)
        replace hF := hF.thenDrew.thenO F6 (by first | exact .inr (by omega) | exact .inl rfl | exact .inl (by assumption))
        replace hB := F6.blkO hB (by omega)
        replace hA := F6.blkO hA (by omega)
        refine wl (ro_assign rfl) ?_
        refine wl (ro_assign rfl) ?_
        refine wl_nil (x_then (hK19 _ _ ?_))
        clear hK19 K19
        refine c_ret (x_blkR (x_thenR ?_))
        refine bq_ret (res3 Tryz.results126 (rv_c rfl ag_87 (hM) rfl) (rv_t rfl) (rv_t rfl)) ?_
        exact ⟨EP.er (i := σ.i) hB (err97 V2) rfl, hF⟩
      · rw [isAln_f (by omega), if_neg (by simp)]
        simp only
        refine ret_of Tryz.func126 rfl Tryz.ntmps126 rfl ?_
        refine c_seq (fun K1 hK1 => ?_)
        refine c_reg ?_ -- region 0 class.go:78
        refine wl_new (ze_87) (fun mb w1 hbmb hM F1 => ?_)
        have hbsmb := Nat.le_trans hF.size hbmb
        have hnexbmb : xb < mb := Nat.lt_of_lt_of_le hB.lt hbmb
        replace hF := hF.thenDrew.thenN F1
        replace hB := F1.blkN hB
        refine wl (ro_assign rfl) ?_
        refine wl (ro_assign rfl) ?_
        refine wl_nil (x_then (hK1 _ _ ?_))
        clear hK1 K1
        refine forget [(0, _), (2, _)] ⟨rfl, rfl, trivial⟩ (fun e => ?_)
        refine c_seq (fun K2 hK2 => ?_)
        refine c_reg ?_ -- region 1 class.go:79
        refine wl (ro_move rfl) ?_
        refine wl (ro_nilCheck rfl) ?_
        refine wl (ro_fieldAddr (k := 1) rfl fo_96_1) ?_
        refine wl (ro_loadB rfl sc_3 (hB) (cel_get' (by omega) V.i1)) ?_
        refine wl (ro_assign rfl) ?_
        refine wl_nil (x_then (hK2 _ _ ?_))
        clear hK2 K2
        refine c_seq (fun K3 hK3 => ?_)
        refine c_seq (fun K4 hK4 => ?_)
        refine c_reg ?_ -- region 2 class.go:80
        refine wl (ro_move rfl) ?_
        refine wl (ro_arith rfl rfl rfl (Go.IntWalk.i64_in _ (by omega))) ?_
        refine wl (ro_move rfl) ?_
        refine wl (ro_nilCheck rfl) ?_
        refine wl (ro_fieldAddr (k := 0) rfl fo_96_0) ?_
        refine wl (ro_loadB rfl sc_9 (hB) (cel_get' (by omega) V.p0)) ?_
        refine wl (ro_lenS rfl st_9) ?_
        refine wl (ro_cmp (r := false) rfl rfl (congrArg some (decide_eq_false (by omega)))) ?_
        refine wl_nil (x_then (hK4 _ _ ?_))
        clear hK4 K4
        refine wc_condF rfl ?_
        refine c_skip (x_then (hK3 _ _ ?_))
        clear hK3 K3
        refine forget [(0, _), (2, _), (5, _)] ⟨rfl, rfl, rfl, trivial⟩ (fun e => ?_)
        refine c_seq (fun K5 hK5 => ?_)
        refine c_reg ?_ -- region 5 class.go:84
        refine wl (ro_move rfl) ?_
        refine wl (ro_nilCheck rfl) ?_
        refine wl (ro_fieldAddr (k := 0) rfl fo_96_0) ?_
        refine wl (ro_loadB rfl sc_9 (hB) (cel_get' (by omega) V.p0)) ?_
        refine wl (ro_move rfl) ?_
        refine wl (ro_arith rfl rfl rfl (Go.IntWalk.i64_in _ (by omega))) ?_
        refine wl (ro_indexS rfl rfl st_9 ((show _ = ((σ.i + 1 : Nat) : Int) by omega)) (hc)) ?_
        refine wl (ro_assign rfl) ?_
        refine wl_nil (x_then (hK5 _ _ ?_))
        clear hK5 K5
        refine forget [(0, _), (2, _), (5, _), (6, _)] ⟨rfl, rfl, rfl, rfl, trivial⟩ (fun e => ?_)
        refine c_seq (fun K6 hK6 => ?_)
        refine c_reg ?_ -- region 6 class.go:85
        refine wl (ro_move rfl) ?_
        refine wl (ro_move rfl) ?_
        refine wl (ro_arith rfl rfl rfl (Go.IntWalk.i64_in _ (by omega))) ?_
        refine wl (ro_nilCheck rfl) ?_
        refine wl (ro_fieldAddr (k := 1) rfl fo_96_1) ?_
        refine wl_put rfl rfl rfl sz_3 hB ((cel_lt (by omega))) ((cel_put 1 (by omega))) (fun w2 hB F2 => ?_)
        replace hF := hF.thenDrew.thenO F2 (by first | exact .inr (by omega) | exact .inl rfl | exact .inl (by assumption))
        replace hM := F2.blkO hM (by omega)
        refine wl_nil (x_then (hK6 _ _ ?_))
        clear hK6 K6
        refine forget [(0, _), (2, _), (5, _), (6, _)] ⟨rfl, rfl, rfl, rfl, trivial⟩ (fun e => ?_)
        refine c_seq (fun K7 hK7 => ?_)
        refine c_reg ?_ -- region 7 class.go:86
        refine wl (ro_move rfl) ?_
        refine wl_call rfl en_141 (named141) ?_
        rintro _ w3 ⟨rfl, F3⟩
        replace hF := hF.thenDrew.thenN F3
        replace hB := F3.blkN hB
        replace hM := F3.blkN hM
        refine wl (ro_move rfl) ?_
        refine wl (ro_extract rfl rfl) ?_
        refine wl (ro_extract rfl rfl) ?_
        rw [hn]
        refine wl_new (ze_87) (fun ab w4 hbab hA F4 => ?_)
        have hbsab := Nat.le_trans hF.size hbab
        have hnexbab : xb < ab := Nat.lt_of_lt_of_le hB.lt hbab
        have hnembab : mb < ab := Nat.lt_of_lt_of_le hM.lt hbab
        replace hF := hF.thenDrew.thenN F4
        replace hB := F4.blkN hB
        replace hM := F4.blkN hM
        refine wl_puta rfl rfl (by simp [Value.oneCell', i64c, u64c, u8c, ptr]) sz_87 (rfl) hA ((by simp)) (rfl) (fun w5 hA F5 => ?_)
        replace hF := hF.thenDrew.thenO F5 (by first | exact .inr (by omega) | exact .inl rfl | exact .inl (by assumption))
        replace hB := F5.blkO hB (by omega)
        replace hM := F5.blkO hM (by omega)
        refine wl (ro_assign rfl) ?_
        refine wl_nil (x_then (hK7 _ _ ?_))
        clear hK7 K7
        refine c_seq (fun K8 hK8 => ?_)
        refine c_seq (fun K9 hK9 => ?_)
        refine c_reg ?_ -- region 8 class.go:87
        refine wl (ro_move rfl) ?_
        refine wl_nil (x_then (hK9 _ _ ?_))
        clear hK9 K9
        refine wc_condF rfl ?_
        refine c_skip (x_then (hK8 _ _ ?_))
        clear hK8 K8
        refine forget [(0, _), (2, _), (5, _), (6, _)] ⟨rfl, rfl, rfl, rfl, trivial⟩ (fun e => ?_)
        refine c_seq (fun K10 hK10 => ?_)
        refine c_reg ?_ -- region 10 class.go:90
        refine wl (ro_move rfl) ?_
        refine wl (ro_assign rfl) ?_
        refine wl_nil (x_then (hK10 _ _ ?_))
        clear hK10 K10
        refine c_seq (fun K11 hK11 => ?_)
        refine c_seq (fun K12 hK12 => ?_)
        refine c_reg ?_ -- region 11 class.go:91
        refine wl (ro_move rfl) ?_
        refine wl_nil (x_then (hK12 _ _ ?_))
        clear hK12 K12
        refine c_block ?_
        refine forget [(0, _), (2, _), (5, _), (6, _), (9, _), (48, _)] ⟨rfl, rfl, rfl, rfl, rfl, rfl, trivial⟩ (fun e => ?_)
        refine c_seq (fun K13 hK13 => ?_)
        refine c_reg ?_ -- region 15 class.go:92
        refine wl (ro_cmp (r := false) rfl rfl (congrArg some ((u8eq c 110).trans (decide_eq_false h110)))) ?_
        refine wl (ro_assign rfl) ?_
        refine wl_nil (x_then (hK13 _ _ ?_))
        clear hK13 K13
        refine wc_condF rfl ?_
        refine c_seq (fun K14 hK14 => ?_)
        refine c_reg ?_ -- region 17 class.go:94
        refine wl (ro_cmp (r := false) rfl rfl (congrArg some ((u8eq c 116).trans (decide_eq_false h116)))) ?_
        refine wl (ro_assign rfl) ?_
        refine wl_nil (x_then (hK14 _ _ ?_))
        clear hK14 K14
        refine wc_condF rfl ?_
        refine c_seq (fun K15 hK15 => ?_)
        refine c_reg ?_ -- region 19 class.go:96
        refine wl (ro_cmp (r := false) rfl rfl (congrArg some ((u8eq c 114).trans (decide_eq_false h114)))) ?_
        refine wl (ro_assign rfl) ?_
        refine wl_nil (x_then (hK15 _ _ ?_))
        clear hK15 K15
        refine wc_condF rfl ?_
        refine c_seq (fun K16 hK16 => ?_)
        refine c_reg ?_ -- region 21 class.go:98
        refine wl (ro_cmp (r := false) rfl rfl (congrArg some ((u8eq c 120).trans (decide_eq_false h120)))) ?_
        refine wl (ro_assign rfl) ?_
        refine wl_nil (x_then (hK16 _ _ ?_))
        clear hK16 K16
        refine wc_condF rfl ?_
        refine c_seq (fun K17 hK17 => ?_)
        refine c_reg ?_ -- region 12 class.go:111
        refine wl (ro_move rfl) ?_
        refine wl (ro_cmp (r := true) rfl rfl (congrArg some (decide_eq_true (by omega)))) ?_
        refine wl (ro_move rfl) ?_
        refine wlg_yes rfl (ro_move rfl) ?_
        refine wlg_yes rfl (ro_cmp (r := false) rfl rfl (congrArg some (decide_eq_false (by omega)))) ?_
        refine wl (ro_pick rfl rfl rfl) ?_
        refine wl (ro_move rfl) ?_
        refine wlg_yes rfl (ro_move rfl) ?_
        refine wlg_yes rfl (ro_cmp (r := true) rfl rfl (congrArg some (decide_eq_true (by omega)))) ?_
        refine wlg_yes rfl (ro_move rfl) ?_
        refine wlg_yes rfl (ro_move rfl) ?_
        refine wlg_yes rfl (ro_cmp (r := false) rfl rfl (congrArg some (decide_eq_false (by omega)))) ?_
        refine wlg_yes rfl (ro_pick rfl rfl rfl) ?_
        refine wl (ro_pick rfl rfl rfl) ?_
        refine wl (ro_move rfl) ?_
        refine wlg_yes rfl (ro_move rfl) ?_
        refine wlg_yes rfl (ro_cmp (r := false) rfl rfl (congrArg some (decide_eq_false (by omega)))) ?_
        refine wlg_yes rfl (ro_move rfl) ?_
        refine wlg_no rfl ?_
        refine wlg_no rfl ?_
        refine wlg_yes rfl (ro_pick rfl rfl rfl) ?_
        refine wl (ro_pick rfl rfl rfl) ?_
        refine wl_nil (x_then (hK17 _ _ ?_))
        clear hK17 K17
        refine wc_condF rfl ?_
        refine c_skip (x_blk (x_then (hK11 _ _ ?_)))
        clear hK11 K11
        refine forget [(2, _), (9, _)] ⟨rfl, rfl, trivial⟩ (fun e => ?_)
        refine c_seq (fun K18 hK18 => ?_)
        refine c_reg ?_ -- region 31 class.go:116
        refine wl (ro_move rfl) ?_
        refine wl (ro_move rfl) ?_
        refine wl_call rfl en_128 (between128) ?_
        rintro _ w6 ⟨rfl, F6⟩
        replace hF := hF.thenDrew.thenN F6
        replace hB := F6.blkN hB
        replace hM := F6.blkN hM
        replace hA := F6.blkN hA
        refine wl (ro_move rfl) ?_
        refine wl_puta rfl rfl (by simp [Value.oneCell', i64c, u64c, u8c, ptr]) sz_87 (rfl) hM ((by simp)) (rfl) (fun w7 hM F7 => ?_)
        replace hF := hF.thenDrew.thenO F7 (by first | exact .inr (by omega) | exact .inl rfl | exact .inl (by assumption))
        replace hB := F7.blkO hB (by omega)
        replace hA := F7.blkO hA (by omega)
        refine wl (ro_assign rfl) ?_
        refine wl (ro_assign rfl) ?_
        refine wl_nil (x_then (hK18 _ _ ?_))
        clear hK18 K18
        refine c_ret ?_
        refine bq_ret (res3 Tryz.results126 (rv_c rfl ag_87 (hM) rfl) (rv_t rfl) (rv_t rfl)) ?_
        exact ⟨EP.ok (b := c) (j := σ.i + 2) hB V2 rfl, hF⟩
      · rw [isAln_t (by omega), if_pos rfl]
        simp only
        refine ret_of Tryz.func126 rfl Tryz.ntmps126 rfl ?_
        refine c_seq (fun K1 hK1 => ?_)
        refine c_reg ?_ -- region 0 class.go:78
        refine wl_new (ze_87) (fun mb w1 hbmb hM F1 => ?_)
        have hbsmb := Nat.le_trans hF.size hbmb
        have hnexbmb : xb < mb := Nat.lt_of_lt_of_le hB.lt hbmb
        replace hF := hF.thenDrew.thenN F1
        replace hB := F1.blkN hB
        refine wl (ro_assign rfl) ?_
        refine wl (ro_assign rfl) ?_
        refine wl_nil (x_then (hK1 _ _ ?_))
        clear hK1 K1
        refine forget [(0, _), (2, _)] ⟨rfl, rfl, trivial⟩ (fun e => ?_)
        refine c_seq (fun K2 hK2 => ?_)
        refine c_reg ?_ -- region 1 class.go:79
        refine wl (ro_move rfl) ?_
        refine wl (ro_nilCheck rfl) ?_
        refine wl (ro_fieldAddr (k := 1) rfl fo_96_1) ?_
        refine wl (ro_loadB rfl sc_3 (hB) (cel_get' (by omega) V.i1)) ?_
        refine wl (ro_assign rfl) ?_
        refine wl_nil (x_then (hK2 _ _ ?_))
        clear hK2 K2
        refine c_seq (fun K3 hK3 => ?_)
        refine c_seq (fun K4 hK4 => ?_)
        refine c_reg ?_ -- region 2 class.go:80
        refine wl (ro_move rfl) ?_
        refine wl (ro_arith rfl rfl rfl (Go.IntWalk.i64_in _ (by omega))) ?_
        refine wl (ro_move rfl) ?_
        refine wl (ro_nilCheck rfl) ?_
        refine wl (ro_fieldAddr (k := 0) rfl fo_96_0) ?_
        refine wl (ro_loadB rfl sc_9 (hB) (cel_get' (by omega) V.p0)) ?_
        refine wl (ro_lenS rfl st_9) ?_
        refine wl (ro_cmp (r := false) rfl rfl (congrArg some (decide_eq_false (by omega)))) ?_
        refine wl_nil (x_then (hK4 _ _ ?_))
        clear hK4 K4
        refine wc_condF rfl ?_
        refine c_skip (x_then (hK3 _ _ ?_))
        clear hK3 K3
        refine forget [(0, _), (2, _), (5, _)] ⟨rfl, rfl, rfl, trivial⟩ (fun e => ?_)
        refine c_seq (fun K5 hK5 => ?_)
        refine c_reg ?_ -- region 5 class.go:84
        refine wl (ro_move rfl) ?_
        refine wl (ro_nilCheck rfl) ?_
        refine wl (ro_fieldAddr (k := 0) rfl fo_96_0) ?_
        refine wl (ro_loadB rfl sc_9 (hB) (cel_get' (by omega) V.p0)) ?_
        refine wl (ro_move rfl) ?_
        refine wl (ro_arith rfl rfl rfl (Go.IntWalk.i64_in _ (by omega))) ?_
        refine wl (ro_indexS rfl rfl st_9 ((show _ = ((σ.i + 1 : Nat) : Int) by omega)) (hc)) ?_
        refine wl (ro_assign rfl) ?_
        refine wl_nil (x_then (hK5 _ _ ?_))
        clear hK5 K5
        refine forget [(0, _), (2, _), (5, _), (6, _)] ⟨rfl, rfl, rfl, rfl, trivial⟩ (fun e => ?_)
        refine c_seq (fun K6 hK6 => ?_)
        refine c_reg ?_ -- region 6 class.go:85
        refine wl (ro_move rfl) ?_
        refine wl (ro_move rfl) ?_
        refine wl (ro_arith rfl rfl rfl (Go.IntWalk.i64_in _ (by omega))) ?_
        refine wl (ro_nilCheck rfl) ?_
        refine wl (ro_fieldAddr (k := 1) rfl fo_96_1) ?_
        refine wl_put rfl rfl rfl sz_3 hB ((cel_lt (by omega))) ((cel_put 1 (by omega))) (fun w2 hB F2 => ?_)
        replace hF := hF.thenDrew.thenO F2 (by first | exact .inr (by omega) | exact .inl rfl | exact .inl (by assumption))
        replace hM := F2.blkO hM (by omega)
        refine wl_nil (x_then (hK6 _ _ ?_))
        clear hK6 K6
        refine forget [(0, _), (2, _), (5, _), (6, _)] ⟨rfl, rfl, rfl, rfl, trivial⟩ (fun e => ?_)
        refine c_seq (fun K7 hK7 => ?_)
        refine c_reg ?_ -- region 7 class.go:86
        refine wl (ro_move rfl) ?_
        refine wl_call rfl en_141 (named141) ?_
        rintro _ w3 ⟨rfl, F3⟩
        replace hF := hF.thenDrew.thenN F3
        replace hB := F3.blkN hB
        replace hM := F3.blkN hM
        refine wl (ro_move rfl) ?_
        refine wl (ro_extract rfl rfl) ?_
        refine wl (ro_extract rfl rfl) ?_
        rw [hn]
        refine wl_new (ze_87) (fun ab w4 hbab hA F4 => ?_)
        have hbsab := Nat.le_trans hF.size hbab
        have hnexbab : xb < ab := Nat.lt_of_lt_of_le hB.lt hbab
        have hnembab : mb < ab := Nat.lt_of_lt_of_le hM.lt hbab
        replace hF := hF.thenDrew.thenN F4
        replace hB := F4.blkN hB
        replace hM := F4.blkN hM
        refine wl_puta rfl rfl (by simp [Value.oneCell', i64c, u64c, u8c, ptr]) sz_87 (rfl) hA ((by simp)) (rfl) (fun w5 hA F5 => ?_)
        replace hF := hF.thenDrew.thenO F5 (by first | exact .inr (by omega) | exact .inl rfl | exact .inl (by assumption))
        replace hB := F5.blkO hB (by omega)
        replace hM := F5.blkO hM (by omega)
        refine wl (ro_assign rfl) ?_
        refine wl_nil (x_then (hK7 _ _ ?_))
        clear hK7 K7
        refine c_seq (fun K8 hK8 => ?_)
        refine c_seq (fun K9 hK9 => ?_)
        refine c_reg ?_ -- region 8 class.go:87
        refine wl (ro_move rfl) ?_
        refine wl_nil (x_then (hK9 _ _ ?_))
        clear hK9 K9
        refine wc_condF rfl ?_
        refine c_skip (x_then (hK8 _ _ ?_))
        clear hK8 K8
        refine forget [(0, _), (2, _), (5, _), (6, _)] ⟨rfl, rfl, rfl, rfl, trivial⟩ (fun e => ?_)
        refine c_seq (fun K10 hK10 => ?_)
        refine c_reg ?_ -- region 10 class.go:90
        refine wl (ro_move rfl) ?_
        refine wl (ro_assign rfl) ?_
        refine wl_nil (x_then (hK10 _ _ ?_))
        clear hK10 K10
        refine c_seq (fun K11 hK11 => ?_)
        refine c_seq (fun K12 hK12 => ?_)
        refine c_reg ?_ -- region 11 class.go:91
        refine wl (ro_move rfl) ?_
        refine wl_nil (x_then (hK12 _ _ ?_))
        clear hK12 K12
        refine c_block ?_
        refine forget [(0, _), (2, _), (5, _), (6, _), (9, _), (48, _)] ⟨rfl, rfl, rfl, rfl, rfl, rfl, trivial⟩ (fun e => ?_)
        refine c_seq (fun K13 hK13 => ?_)
        refine c_reg ?_ -- region 15 class.go:92
        refine wl (ro_cmp (r := false) rfl rfl (congrArg some ((u8eq c 110).trans (decide_eq_false h110)))) ?_
        refine wl (ro_assign rfl) ?_
        refine wl_nil (x_then (hK13 _ _ ?_))
        clear hK13 K13
        refine wc_condF rfl ?_
        refine c_seq (fun K14 hK14 => ?_)
        refine c_reg ?_ -- region 17 class.go:94
        refine wl (ro_cmp (r := false) rfl rfl (congrArg some ((u8eq c 116).trans (decide_eq_false h116)))) ?_
        refine wl (ro_assign rfl) ?_
        refine wl_nil (x_then (hK14 _ _ ?_))
        clear hK14 K14
        refine wc_condF rfl ?_
        refine c_seq (fun K15 hK15 => ?_)
        refine c_reg ?_ -- region 19 class.go:96
        refine wl (ro_cmp (r := false) rfl rfl (congrArg some ((u8eq c 114).trans (decide_eq_false h114)))) ?_
        refine wl (ro_assign rfl) ?_
        refine wl_nil (x_then (hK15 _ _ ?_))
        clear hK15 K15
        refine wc_condF rfl ?_
        refine c_seq (fun K16 hK16 => ?_)
        refine c_reg ?_ -- region 21 class.go:98
        refine wl (ro_cmp (r := false) rfl rfl (congrArg some ((u8eq c 120).trans (decide_eq_false h120)))) ?_
        refine wl (ro_assign rfl) ?_
        refine wl_nil (x_then (hK16 _ _ ?_))
        clear hK16 K16
        refine wc_condF rfl ?_
        refine c_seq (fun K17 hK17 => ?_)
        refine c_reg ?_ -- region 12 class.go:111
        refine wl (ro_move rfl) ?_
        refine wl (ro_cmp (r := true) rfl rfl (congrArg some (decide_eq_true (by omega)))) ?_
        refine wl (ro_move rfl) ?_
        refine wlg_yes rfl (ro_move rfl) ?_
        refine wlg_yes rfl (ro_cmp (r := false) rfl rfl (congrArg some (decide_eq_false (by omega)))) ?_
        refine wl (ro_pick rfl rfl rfl) ?_
        refine wl (ro_move rfl) ?_
        refine wlg_yes rfl (ro_move rfl) ?_
        refine wlg_yes rfl (ro_cmp (r := true) rfl rfl (congrArg some (decide_eq_true (by omega)))) ?_
        refine wlg_yes rfl (ro_move rfl) ?_
        refine wlg_yes rfl (ro_move rfl) ?_
        refine wlg_yes rfl (ro_cmp (r := false) rfl rfl (congrArg some (decide_eq_false (by omega)))) ?_
        refine wlg_yes rfl (ro_pick rfl rfl rfl) ?_
        refine wl (ro_pick rfl rfl rfl) ?_
        refine wl (ro_move rfl) ?_
        refine wlg_yes rfl (ro_move rfl) ?_
        refine wlg_yes rfl (ro_cmp (r := true) rfl rfl (congrArg some (decide_eq_true (by omega)))) ?_
        refine wlg_yes rfl (ro_move rfl) ?_
        refine wlg_yes rfl (ro_move rfl) ?_
        refine wlg_yes rfl (ro_cmp (r := true) rfl rfl (congrArg some (decide_eq_true (by omega)))) ?_
        refine wlg_yes rfl (ro_pick rfl rfl rfl) ?_
        refine wl (ro_pick rfl rfl rfl) ?_
        refine wl_nil (x_then (hK17 _ _ ?_))
        clear hK17 K17
        refine wc_condT rfl ?_
        refine c_seq (fun K18 hK18 => ?_)
        refine c_reg ?_ -- region 13 class.go:112
        refine wl (ro_move rfl) ?_
        refine wl (ro_move rfl) ?_
        refine wl_call rfl en_97 (fail97 hB) ?_
        rintro _ w9 ⟨rfl, hB, F9⟩
        replace hF := hF.trans F9
        replace hM := F9.blkO hM (by omega)
        replace hA := F9.blkO hA (by omega)
        refine wl_nil (x_then (hK18 _ _ ?_))
        clear hK18 K18
        refine forget [(2, _)] ⟨rfl, trivial⟩ (fun e => ?_)
        refine c_seq (fun K19 hK19 => ?_)
        refine c_reg ?_ -- region 14 class.go:113
        refine wl (ro_build rfl bld_87) ?_
        rw [zeroS]
        refine wl_puta rfl rfl (by simp [Value.oneCell', i64c, u64c, u8c, ptr]) sz_87 (rfl) hM ((by simp)) (rfl) (fun w6 hM F6 => ?_)
        replace hF := hF.thenDrew.thenO F6 (by first | exact .inr (by omega) | exact .inl rfl | exact .inl (by assumption))
        replace hB := F6.blkO hB (by omega)
        replace hA := F6.blkO hA (by omega)
        refine wl (ro_assign rfl) ?_
        refine wl (ro_assign rfl) ?_
        refine wl_nil (x_then (hK19 _ _ ?_))
        clear hK19 K19
        refine c_ret (x_blkR (x_thenR ?_))
        refine bq_ret (res3 Tryz.results126 (rv_c rfl ag_87 (hM) rfl) (rv_t rfl) (rv_t rfl)) ?_
        exact ⟨EP.er (i := σ.i) hB (err97 V2) rfl, hF⟩
      · rw [isAln_f (by omega), if_neg (by simp)]
        simp only
        refine ret_of Tryz.func126 rfl Tryz.ntmps126 rfl ?_
        refine c_seq (fun K1 hK1 => ?_)
        refine c_reg ?_ -- region 0 class.go:78
        refine wl_new (ze_87) (fun mb w1 hbmb hM F1 => ?_)
        have hbsmb := Nat.le_trans hF.size hbmb
        have hnexbmb : xb < mb := Nat.lt_of_lt_of_le hB.lt hbmb
        replace hF := hF.thenDrew.thenN F1
        replace hB := F1.blkN hB
        refine wl (ro_assign rfl) ?_
        refine wl (ro_assign rfl) ?_
        refine wl_nil (x_then (hK1 _ _ ?_))
        clear hK1 K1
        refine forget [(0, _), (2, _)] ⟨rfl, rfl, trivial⟩ (fun e => ?_)
        refine c_seq (fun K2 hK2 => ?_)
        refine c_reg ?_ -- region 1 class.go:79
        refine wl (ro_move rfl) ?_
        refine wl (ro_nilCheck rfl) ?_
        refine wl (ro_fieldAddr (k := 1) rfl fo_96_1) ?_
        refine wl (ro_loadB rfl sc_3 (hB) (cel_get' (by omega) V.i1)) ?_
        refine wl (ro_assign rfl) ?_
        refine wl_nil (x_then (hK2 _ _ ?_))
        clear hK2 K2
        refine c_seq (fun K3 hK3 => ?_)
        refine c_seq (fun K4 hK4 => ?_)
        refine c_reg ?_ -- region 2 class.go:80
        refine wl (ro_move rfl) ?_
        refine wl (ro_arith rfl rfl rfl (Go.IntWalk.i64_in _ (by omega))) ?_
        refine wl (ro_move rfl) ?_
        refine wl (ro_nilCheck rfl) ?_
        refine wl (ro_fieldAddr (k := 0) rfl fo_96_0) ?_
        refine wl (ro_loadB rfl sc_9 (hB) (cel_get' (by omega) V.p0)) ?_
        refine wl (ro_lenS rfl st_9) ?_
        refine wl (ro_cmp (r := false) rfl rfl (congrArg some (decide_eq_false (by omega)))) ?_
        refine wl_nil (x_then (hK4 _ _ ?_))
        clear hK4 K4
        refine wc_condF rfl ?_
        refine c_skip (x_then (hK3 _ _ ?_))
        clear hK3 K3
        refine forget [(0, _), (2, _), (5, _)] ⟨rfl, rfl, rfl, trivial⟩ (fun e => ?_)
        refine c_seq (fun K5 hK5 => ?_)
        refine c_reg ?_ -- region 5 class.go:84
        refine wl (ro_move rfl) ?_
        refine wl (ro_nilCheck rfl) ?_
        refine wl (ro_fieldAddr (k := 0) rfl fo_96_0) ?_
        refine wl (ro_loadB rfl sc_9 (hB) (cel_get' (by omega) V.p0)) ?_
        refine wl (ro_move rfl) ?_
        refine wl (ro_arith rfl rfl rfl (Go.IntWalk.i64_in _ (by omega))) ?_
        refine wl (ro_indexS rfl rfl st_9 ((show _ = ((σ.i + 1 : Nat) : Int) by omega)) (hc)) ?_
        refine wl (ro_assign rfl) ?_
        refine wl_nil (x_then (hK5 _ _ ?_))
        clear hK5 K5
        refine forget [(0, _), (2, _), (5, _), (6, _)] ⟨rfl, rfl, rfl, rfl, trivial⟩ (fun e => ?_)
        refine c_seq (fun K6 hK6 => ?_)
        refine c_reg ?_ -- region 6 class.go:85
        refine wl (ro_move rfl) ?_
        refine wl (ro_move rfl) ?_
        refine wl (ro_arith rfl rfl rfl (Go.IntWalk.i64_in _ (by omega))) ?_
        refine wl (ro_nilCheck rfl) ?_
        refine wl (ro_fieldAddr (k := 1) rfl fo_96_1) ?_
        refine wl_put rfl rfl rfl sz_3 hB ((cel_lt (by omega))) ((cel_put 1 (by omega))) (fun w2 hB F2 => ?_)
        replace hF := hF.thenDrew.thenO F2 (by first | exact .inr (by omega) | exact .inl rfl | exact .inl (by assumption))
        replace hM := F2.blkO hM (by omega)
        refine wl_nil (x_then (hK6 _ _ ?_))
        clear hK6 K6
        refine forget [(0, _), (2, _), (5, _), (6, _)] ⟨rfl, rfl, rfl, rfl, trivial⟩ (fun e => ?_)
        refine c_seq (fun K7 hK7 => ?_)
        refine c_reg ?_ -- region 7 class.go:86
        refine wl (ro_move rfl) ?_
        refine wl_call rfl en_141 (named141) ?_
        rintro _ w3 ⟨rfl, F3⟩
        replace hF := hF.thenDrew.thenN F3
        replace hB := F3.blkN hB
        replace hM := F3.blkN hM
        refine wl (ro_move rfl) ?_
        refine wl (ro_extract rfl rfl) ?_
        refine wl (ro_extract rfl rfl) ?_
        rw [hn]
        refine wl_new (ze_87) (fun ab w4 hbab hA F4 => ?_)
        have hbsab := Nat.le_trans hF.size hbab
        have hnexbab : xb < ab := Nat.lt_of_lt_of_le hB.lt hbab
        have hnembab : mb < ab := Nat.lt_of_lt_of_le hM.lt hbab
        replace hF := hF.thenDrew.thenN F4
        replace hB := F4.blkN hB
        replace hM := F4.blkN hM
        refine wl_puta rfl rfl (by simp [Value.oneCell', i64c, u64c, u8c, ptr]) sz_87 (rfl) hA ((by simp)) (rfl) (fun w5 hA F5 => ?_)
        replace hF := hF.thenDrew.thenO F5 (by first | exact .inr (by omega) | exact .inl rfl | exact .inl (by assumption))
        replace hB := F5.blkO hB (by omega)
        replace hM := F5.blkO hM (by omega)
        refine wl (ro_assign rfl) ?_
        refine wl_nil (x_then (hK7 _ _ ?_))
        clear hK7 K7
        refine c_seq (fun K8 hK8 => ?_)
        refine c_seq (fun K9 hK9 => ?_)
        refine c_reg ?_ -- region 8 class.go:87
        refine wl (ro_move rfl) ?_
        refine wl_nil (x_then (hK9 _ _ ?_))
        clear hK9 K9
        refine wc_condF rfl ?_
        refine c_skip (x_then (hK8 _ _ ?_))
        clear hK8 K8
        refine forget [(0, _), (2, _), (5, _), (6, _)] ⟨rfl, rfl, rfl, rfl, trivial⟩ (fun e => ?_)
        refine c_seq (fun K10 hK10 => ?_)
        refine c_reg ?_ -- region 10 class.go:90
        refine wl (ro_move rfl) ?_
        refine wl (ro_assign rfl) ?_
        refine wl_nil (x_then (hK10 _ _ ?_))
        clear hK10 K10
        refine c_seq (fun K11 hK11 => ?_)
        refine c_seq (fun K12 hK12 => ?_)
        refine c_reg ?_ -- region 11 class.go:91
        refine wl (ro_move rfl) ?_
        refine wl_nil (x_then (hK12 _ _ ?_))
        clear hK12 K12
        refine c_block ?_
        refine forget [(0, _), (2, _), (5, _), (6, _), (9, _), (48, _)] ⟨rfl, rfl, rfl, rfl, rfl, rfl, trivial⟩ (fun e => ?_)
        refine c_seq (fun K13 hK13 => ?_)
        refine c_reg ?_ -- region 15 class.go:92
        refine wl (ro_cmp (r := false) rfl rfl (congrArg some ((u8eq c 110).trans (decide_eq_false h110)))) ?_
        refine wl (ro_assign rfl) ?_
        refine wl_nil (x_then (hK13 _ _ ?_))
        clear hK13 K13
        refine wc_condF rfl ?_
        refine c_seq (fun K14 hK14 => ?_)
        refine c_reg ?_ -- region 17 class.go:94
        refine wl (ro_cmp (r := false) rfl rfl (congrArg some ((u8eq c 116).trans (decide_eq_false h116)))) ?_
        refine wl (ro_assign rfl) ?_
        refine wl_nil (x_then (hK14 _ _ ?_))
        clear hK14 K14
        refine wc_condF rfl ?_
        refine c_seq (fun K15 hK15 => ?_)
        refine c_reg ?_ -- region 19 class.go:96
        refine wl (ro_cmp (r := false) rfl rfl (congrArg some ((u8eq c 114).trans (decide_eq_false h114)))) ?_
        refine wl (ro_assign rfl) ?_
        refine wl_nil (x_then (hK15 _ _ ?_))
        clear hK15 K15
        refine wc_condF rfl ?_
        refine c_seq (fun K16 hK16 => ?_)
        refine c_reg ?_ -- region 21 class.go:98
        refine wl (ro_cmp (r := false) rfl rfl (congrArg some ((u8eq c 120).trans (decide_eq_false h120)))) ?_
        refine wl (ro_assign rfl) ?_
        refine wl_nil (x_then (hK16 _ _ ?_))
        clear hK16 K16
        refine wc_condF rfl ?_
        refine c_seq (fun K17 hK17 => ?_)
        refine c_reg ?_ -- region 12 class.go:111
        refine wl (ro_move rfl) ?_
        refine wl (ro_cmp (r := true) rfl rfl (congrArg some (decide_eq_true (by omega)))) ?_
        refine wl (ro_move rfl) ?_
        refine wlg_yes rfl (ro_move rfl) ?_
        refine wlg_yes rfl (ro_cmp (r := false) rfl rfl (congrArg some (decide_eq_false (by omega)))) ?_
        refine wl (ro_pick rfl rfl rfl) ?_
        refine wl (ro_move rfl) ?_
        refine wlg_yes rfl (ro_move rfl) ?_
        refine wlg_yes rfl (ro_cmp (r := true) rfl rfl (congrArg some (decide_eq_true (by omega)))) ?_
        refine wlg_yes rfl (ro_move rfl) ?_
        refine wlg_yes rfl (ro_move rfl) ?_
        refine wlg_yes rfl (ro_cmp (r := false) rfl rfl (congrArg some (decide_eq_false (by omega)))) ?_
        refine wlg_yes rfl (ro_pick rfl rfl rfl) ?_
        refine wl (ro_pick rfl rfl rfl) ?_
        refine wl (ro_move rfl) ?_
        refine wlg_yes rfl (ro_move rfl) ?_
        refine wlg_yes rfl (ro_cmp (r := true) rfl rfl (congrArg some (decide_eq_true (by omega)))) ?_
        refine wlg_yes rfl (ro_move rfl) ?_
        refine wlg_yes rfl (ro_move rfl) ?_
        refine wlg_yes rfl (ro_cmp (r := false) rfl rfl (congrArg some (decide_eq_false (by omega)))) ?_
        refine wlg_yes rfl (ro_pick rfl rfl rfl) ?_
        refine wl (ro_pick rfl rfl rfl) ?_
        refine wl_nil (x_then (hK17 _ _ ?_))
        clear hK17 K17
        refine wc_condF rfl ?_
        refine c_skip (x_blk (x_then (hK11 _ _ ?_)))
        clear hK11 K11
        refine forget [(2, _), (9, _)] ⟨rfl, rfl, trivial⟩ (fun e => ?_)
        refine c_seq (fun K18 hK18 => ?_)
        refine c_reg ?_ -- region 31 class.go:116
        refine wl (ro_move rfl) ?_
        refine wl (ro_move rfl) ?_
        refine wl_call rfl en_128 (between128) ?_
        rintro _ w6 ⟨rfl, F6⟩
        replace hF := hF.thenDrew.thenN F6
        replace hB := F6.blkN hB
        replace hM := F6.blkN hM
        replace hA := F6.blkN hA
        refine wl (ro_move rfl) ?_
        refine wl_puta rfl rfl (by simp [Value.oneCell', i64c, u64c, u8c, ptr]) sz_87 (rfl) hM ((by simp)) (rfl) (fun w7 hM F7 => ?_)
        replace hF := hF.thenDrew.thenO F7 (by first | exact .inr (by omega) | exact .inl rfl | exact .inl (by assumption))
        replace hB := F7.blkO hB (by omega)
        replace hA := F7.blkO hA (by omega)
        refine wl (ro_assign rfl) ?_
        refine wl (ro_assign rfl) ?_
        refine wl_nil (x_then (hK18 _ _ ?_))
        clear hK18 K18
        refine c_ret ?_
        refine bq_ret (res3 Tryz.results126 (rv_c rfl ag_87 (hM) rfl) (rv_t rfl) (rv_t rfl)) ?_
        exact ⟨EP.ok (b := c) (j := σ.i + 2) hB V2 rfl, hF⟩

theorem item139 {w : World} {xb : Nat} {f : Nat → Value} {p : List UInt8} {σ : RS} {T : List RE} {c : UInt8} (hB : FB w.heap xb 325 f 96) (V : PV f p σ T) (hc : p[σ.i]? = some c) :
    Ret Tryz.prog 139 [ptr xb] w (fun r w' => EP xb p σ T (item p σ.i c) r w' ∧ Fram (one xb) w w') := by
  have hF : Fram (one xb) w w := Fram.refl _ _
  have hpl := V.pl
  have hi := get_lt hc
  unfold item
  by_cases h92 : c = 92
  · rw [if_pos h92]
    subst h92
    refine ret_of Tryz.func139 rfl Tryz.ntmps139 rfl ?_
    refine c_seq (fun K1 hK1 => ?_)
    refine c_reg ?_ -- region 0 class.go:120
    refine wl_new (ze_87) (fun mb w1 hbmb hM F1 => ?_)
    have hbsmb := Nat.le_trans hF.size hbmb
    have hnexbmb : xb < mb := Nat.lt_of_lt_of_le hB.lt hbmb
    replace hF := hF.thenDrew.thenN F1
    replace hB := F1.blkN hB
    refine wl (ro_assign rfl) ?_
    refine wl (ro_assign rfl) ?_
    refine wl_nil (x_then (hK1 _ _ ?_))
    clear hK1 K1
    refine forget [(0, _), (2, _)] ⟨rfl, rfl, trivial⟩ (fun e => ?_)
    refine c_seq (fun K2 hK2 => ?_)
    refine c_pi [(0, false), (1, false), (2, false), (3, false), (4, false), (5, false), (6, false), (7, false), (8, false), (9, false)] (SameH _) mixed (by kernel_rfl) rfl (by kernel_rfl) (po_then (po_bp)) (sameH_now _ _) ?_ -- region 1 class.go:121
    refine pi_ro rfl (fun w hS => ro_move rfl) ?_
    refine pi_ro rfl (fun w hS => ro_nilCheck rfl) ?_
    refine pi_ro rfl (fun w hS => ro_fieldAddr (k := 0) rfl fo_96_0) ?_
    refine pi_ro rfl (fun w hS => ro_loadB rfl sc_9 (Blk.of_heap hB hS) (cel_get' (by omega) V.p0)) ?_
    refine pi_ro rfl (fun w hS => ro_move rfl) ?_
    refine pi_ro rfl (fun w hS => ro_nilCheck rfl) ?_
    refine pi_ro rfl (fun w hS => ro_fieldAddr (k := 1) rfl fo_96_1) ?_
    refine pi_ro rfl (fun w hS => ro_loadB rfl sc_3 (Blk.of_heap hB hS) (cel_get' (by omega) V.i1)) ?_
    refine pi_ro rfl (fun w hS => ro_indexS rfl rfl st_9 (rfl) (hc)) ?_
    refine pi_ro rfl (fun w hS => ro_assign rfl) ?_
    replace hF := hF.thenDrew (k := w1.drawn + 1)
    refine pi_nil (x_then (hK2 _ _ ?_))
    clear hK2 K2
    refine c_seq (fun K3 hK3 => ?_)
    refine c_seq (fun K4 hK4 => ?_)
    refine c_reg ?_ -- region 2 class.go:122
    refine wl (ro_move rfl) ?_
    refine wl (ro_cmp rfl rfl rfl) ?_
    refine wl_nil (x_then (hK4 _ _ ?_))
    clear hK4 K4
    refine wc_condT rfl ?_
    refine c_seq (fun K5 hK5 => ?_)
    refine c_reg ?_ -- region 3 class.go:123
    refine wl (ro_move rfl) ?_
    refine wl_call rfl en_126 (escape126 (w := { w1 with drawn := w1.drawn + 1 }) hB V hi) ?_
    rintro r w2 ⟨⟨Z, b, o, f2, ec, rfl, hB, hec, hP⟩, F2⟩
    replace hF := hF.trans F2
    replace hM := F2.blkO hM (by omega)
    refine wl (ro_extract rfl rfl) ?_
    refine wl (ro_extract rfl rfl) ?_
    refine wl (ro_extract rfl rfl) ?_
    refine wl_puta rfl rfl (by simp [Value.oneCell', i64c, u64c, u8c, ptr]) sz_87 (rfl) hM ((by simp)) (rfl) (fun w2 hM F2 => ?_)
    replace hF := hF.thenDrew.thenO F2 (by first | exact .inr (by omega) | exact .inl rfl | exact .inl (by assumption))
    replace hB := F2.blkO hB (by omega)
    refine wl (ro_assign rfl) ?_
    refine wl (ro_assign rfl) ?_
    refine wl_nil (x_then (hK5 _ _ ?_))
    clear hK5 K5
    refine c_ret (x_thenR ?_)
    refine bq_ret (res3 Tryz.results139 (rv_c rfl ag_87 (hM) rfl) (rv_t rfl) (rv_t rfl)) ?_
    exact ⟨⟨Z, b, o, f2, ec, rfl, hB, hec, hP⟩, hF⟩
  · rw [if_neg h92]
    refine ret_of Tryz.func139 rfl Tryz.ntmps139 rfl ?_
    refine c_seq (fun K1 hK1 => ?_)
    refine c_reg ?_ -- region 0 class.go:120
    refine wl_new (ze_87) (fun mb w1 hbmb hM F1 => ?_)
    have hbsmb := Nat.le_trans hF.size hbmb
    have hnexbmb : xb < mb := Nat.lt_of_lt_of_le hB.lt hbmb
    replace hF := hF.thenDrew.thenN F1
    replace hB := F1.blkN hB
    refine wl (ro_assign rfl) ?_
    refine wl (ro_assign rfl) ?_
    refine wl_nil (x_then (hK1 _ _ ?_))
    clear hK1 K1
    refine forget [(0, _), (2, _)] ⟨rfl, rfl, trivial⟩ (fun e => ?_)
    refine c_seq (fun K2 hK2 => ?_)
    refine c_pi [(0, false), (1, false), (2, false), (3, false), (4, false), (5, false), (6, false), (7, false), (8, false), (9, false)] (SameH _) mixed (by kernel_rfl) rfl (by kernel_rfl) (po_then (po_bp)) (sameH_now _ _) ?_ -- region 1 class.go:121
    refine pi_ro rfl (fun w hS => ro_move rfl) ?_
    refine pi_ro rfl (fun w hS => ro_nilCheck rfl) ?_
    refine pi_ro rfl (fun w hS => ro_fieldAddr (k := 0) rfl fo_96_0) ?_
    refine pi_ro rfl (fun w hS => ro_loadB rfl sc_9 (Blk.of_heap hB hS) (cel_get' (by omega) V.p0)) ?_
    refine pi_ro rfl (fun w hS => ro_move rfl) ?_
    refine pi_ro rfl (fun w hS => ro_nilCheck rfl) ?_
    refine pi_ro rfl (fun w hS => ro_fieldAddr (k := 1) rfl fo_96_1) ?_
    refine pi_ro rfl (fun w hS => ro_loadB rfl sc_3 (Blk.of_heap hB hS) (cel_get' (by omega) V.i1)) ?_
    refine pi_ro rfl (fun w hS => ro_indexS rfl rfl st_9 (rfl) (hc)) ?_
    refine pi_ro rfl (fun w hS => ro_assign rfl) ?_
    replace hF := hF.thenDrew (k := w1.drawn + 1)
    refine pi_nil (x_then (hK2 _ _ ?_))
    clear hK2 K2
    refine c_seq (fun K3 hK3 => ?_)
    refine c_seq (fun K4 hK4 => ?_)
    refine c_reg ?_ -- region 2 class.go:122
    refine wl (ro_move rfl) ?_
    refine wl (ro_cmp (r := false) rfl rfl (congrArg some ((u8eq c 92).trans (decide_eq_false h92)))) ?_
    refine wl_nil (x_then (hK4 _ _ ?_))
    clear hK4 K4
    refine wc_condF rfl ?_
    refine c_skip (x_then (hK3 _ _ ?_))
    clear hK3 K3
    refine forget [(0, _), (2, _), (5, _)] ⟨rfl, rfl, rfl, trivial⟩ (fun e => ?_)
    refine c_seq (fun K5 hK5 => ?_)
    refine c_reg ?_ -- region 4 class.go:125
    refine wl (ro_move rfl) ?_
    refine wl (ro_nilCheck rfl) ?_
    refine wl (ro_fieldAddr (k := 1) rfl fo_96_1) ?_
    refine wl (ro_loadB rfl sc_3 (hB) (cel_get' (by omega) V.i1)) ?_
    refine wl (ro_arith rfl rfl rfl (Go.IntWalk.i64_in _ (by omega))) ?_
    refine wl (ro_nilCheck rfl) ?_
    refine wl (ro_fieldAddr (k := 1) rfl fo_96_1) ?_
    refine wl_put rfl rfl rfl sz_3 hB ((cel_lt (by omega))) ((cel_put 1 (by omega))) (fun w2 hB F2 => ?_)
    replace hF := hF.thenDrew.thenO F2 (by first | exact .inr (by omega) | exact .inl rfl | exact .inl (by assumption))
    replace hM := F2.blkO hM (by omega)
    refine wl_nil (x_then (hK5 _ _ ?_))
    clear hK5 K5
    refine forget [(2, _), (5, _)] ⟨rfl, rfl, trivial⟩ (fun e => ?_)
    refine c_seq (fun K6 hK6 => ?_)
    refine c_reg ?_ -- region 5 class.go:126
    refine wl (ro_move rfl) ?_
    refine wl (ro_move rfl) ?_
    refine wl_call rfl en_128 (between128) ?_
    rintro _ w3 ⟨rfl, F3⟩
    replace hF := hF.thenDrew.thenN F3
    replace hB := F3.blkN hB
    replace hM := F3.blkN hM
    refine wl (ro_move rfl) ?_
    refine wl_puta rfl rfl (by simp [Value.oneCell', i64c, u64c, u8c, ptr]) sz_87 (rfl) hM ((by simp)) (rfl) (fun w4 hM F4 => ?_)
    replace hF := hF.thenDrew.thenO F4 (by first | exact .inr (by omega) | exact .inl rfl | exact .inl (by assumption))
    replace hB := F4.blkO hB (by omega)
    refine wl (ro_assign rfl) ?_
    refine wl (ro_assign rfl) ?_
    refine wl_nil (x_then (hK6 _ _ ?_))
    clear hK6 K6
    refine c_ret ?_
    refine bq_ret (res3 Tryz.results139 (rv_c rfl ag_87 (hM) rfl) (rv_t rfl) (rv_t rfl)) ?_
    exact ⟨EP.ok (b := c) (j := σ.i + 1) hB (V.setI (i := σ.i + 1) (by omega)) rfl, hF⟩

end Go.Proofs.Qxb6500567aGreat
