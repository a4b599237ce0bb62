import Derived.Test.Qxb6500568aGreatDoorBk
/- The real numbers: Ldexp and what it leans on. -/
namespace Go.Proofs.Qxb6500568aGreatDoor
open Ieee
set_option linter.unusedVariables false
set_option linter.unusedSimpArgs false

theorem Abs296 {w : World} {a : Nat} (h : W64 a) : Ret Tryz.prog 296 [fl a] w (fun v w' => v = fl (rgW a) ∧ w' = w) := by
  refine ret_of Tryz.func296 rfl Tryz.ntmps296 rfl ?_
  refine c_seq (fun K1 hK1 => ?_)
  refine c_reg ?_ -- region 0 abs.go:13
  refine wl (ro_assign rfl) ?_
  refine wl_nil (x_then (hK1 _ _ ?_))
  clear hK1 K1
  refine forget [(0, _)] ⟨rfl, trivial⟩ (fun e => ?_)
  refine c_seq (fun K2 hK2 => ?_)
  refine c_reg ?_ -- region 1 abs.go:14
  refine wl (ro_move rfl) ?_
  refine wl (ro_bitsF rfl) ?_
  refine wl (ro_hi rfl (by assumption)) ?_
  refine wl (ro_from rfl) ?_
  refine wl (ro_assign rfl) ?_
  refine wl_nil (x_then (hK2 _ _ ?_))
  clear hK2 K2
  refine c_ret ?_
  refine bp_ret Tryz.results296 rfl ?_
  exact ⟨rfl, rfl⟩
theorem IsInf281 {w : World} {a : Nat} (h : W64 a) (hf : rgW a < infB) : Ret Tryz.prog 281 [fl a, icv 0] w (fun v w' => v = .bool false ∧ w' = w) := by
  have cM : okey 9218868437227405311 = 9218868437227405311 := by decide
  refine ret_of Tryz.func281 rfl Tryz.ntmps281 rfl ?_
  refine c_seq (fun K1 hK1 => ?_)
  refine c_reg ?_ -- region 0 bits.go:46
  refine wl (ro_assign rfl) ?_
  refine wl_nil (x_then (hK1 _ _ ?_))
  clear hK1 K1
  refine c_seq (fun K2 hK2 => ?_)
  refine c_seq (fun K3 hK3 => ?_)
  refine c_reg ?_ -- region 1 bits.go:51
  refine wl (ro_move rfl) ?_
  refine wl (ro_cmp rfl rfl rfl) ?_
  refine wl_nil (x_then (hK3 _ _ ?_))
  clear hK3 K3
  refine wc_condT rfl ?_
  refine c_reg ?_ -- region 2 bits.go:52
  refine wl (ro_move rfl) ?_
  refine wl_call rfl en_296 (Abs296 h) ?_
  rintro _ u0 ⟨rfl, hw0⟩
  rw [hw0]
  clear hw0 u0
  refine wl (ro_assign rfl) ?_
  refine wl_nil (x_then (hK2 _ _ ?_))
  clear hK2 K2
  refine forget [(0, _)] ⟨rfl, trivial⟩ (fun e => ?_)
  refine c_seq (fun K4 hK4 => ?_)
  refine c_reg ?_ -- region 5 bits.go:56
  refine wl (ro_move rfl) ?_
  refine wl (ro_fcmp (b := 9218868437227405311) rfl rfl (rgW_lt a) (by decide) rfl) ?_
  refine wl (ro_assign rfl) ?_
  refine wl_nil (x_then (hK4 _ _ ?_))
  clear hK4 K4
  refine c_ret ?_
  refine bp_ret Tryz.results281 rfl ?_
  refine ⟨congrArg Value.bool ?_, rfl⟩
  rw [fCmp5 (by rw [rg_rg]; omega) (by decide), cM, okey_rg, decide_eq_false_iff_not]
  unfold infB at hf
  omega
theorem IsNaN282 {w : World} {a : Nat} (h : W64 a) : Ret Tryz.prog 282 [fl a] w (fun v w' => v = .bool (isNaNW a) ∧ w' = w) := by
  refine ret_of Tryz.func282 rfl Tryz.ntmps282 rfl ?_
  refine c_seq (fun K1 hK1 => ?_)
  refine c_reg ?_ -- region 0 bits.go:34
  refine wl (ro_assign rfl) ?_
  refine wl_nil (x_then (hK1 _ _ ?_))
  clear hK1 K1
  refine forget [(0, _)] ⟨rfl, trivial⟩ (fun e => ?_)
  refine c_seq (fun K2 hK2 => ?_)
  refine c_reg ?_ -- region 1 bits.go:39
  refine wl (ro_move rfl) ?_
  refine wl (ro_move rfl) ?_
  refine wl (ro_fcmp rfl rfl h h rfl) ?_
  refine wl (ro_assign rfl) ?_
  refine wl_nil (x_then (hK2 _ _ ?_))
  clear hK2 K2
  refine c_ret ?_
  refine bp_ret Tryz.results282 rfl ?_
  exact ⟨by rw [cmp_self], rfl⟩
theorem cmp_min {a : Nat} (hn : 4503599627370496 ≤ rgW a) (hf : rgW a < infB) : some (fCmp 3 (rgW a) 4503599627370496) = some false := by
  have cM : okey 4503599627370496 = 4503599627370496 := by decide
  rw [fCmp3 (by rw [rg_rg]; omega) (by decide), cM, okey_rg]
  exact congrArg some (decide_eq_false (by omega))
theorem cmp_pos {a : Nat} (hf : rgW a < infB) (hoa : okey a = (a : Int)) : some (fCmp 3 a 0) = some false := by
  rw [fCmp3 (by omega) (by decide), show okey 0 = 0 by decide, hoa]
  congr 1
theorem cmp_nz {a : Nat} (hf : rgW a < infB) (hoa : okey a = (a : Int)) (h0 : 4503599627370496 ≤ a) : some (fCmp 1 a 0) = some false := by
  rw [fCmp1 (by omega) (by decide), show okey 0 = 0 by decide, hoa]
  exact congrArg some (decide_eq_false (by omega))
theorem bB {E : Int} {B : Nat} (h1 : -1022 ≤ E) (h2 : E ≤ 1023) (hB : E + 1023 = (B : Int)) : B ≤ 2046 := by omega
theorem bI {B : Nat} (h : B ≤ 2046) : IntKind.i64.wrap (B : Int) = (B : Int) := Go.IntWalk.i64_in _ (by omega)
theorem bU {B : Nat} (h : B ≤ 2046) : IntKind.u64.wrap (B : Int) = (B : Int) := Go.IntWalk.u64_in _ (by omega)
theorem bS {B : Nat} (h : B ≤ 2046) : W64 (B * 2 ^ 52) := by unfold W64; omega
theorem bM {M : Nat} (h : M < 9007199254740992) : M - 4503599627370496 < 2 ^ 52 ∧ W64 (M - 4503599627370496) := by unfold W64; omega
theorem mkW_nat {M B : Nat} {E : Int} (hM1 : 4503599627370496 ≤ M) (hB : E + 1023 = (B : Int)) : mkW M (E - 52) = M - 4503599627370496 + B * 2 ^ 52 := by
  unfold mkW
  rw [show (E - 52 + 1075).toNat = B by omega]
  omega
theorem normalize283 {w : World} {a : Nat} (h : W64 a) (hn : 4503599627370496 ≤ rgW a) (hf : rgW a < infB) : Ret Tryz.prog 283 [fl a] w (fun v w' => v = .tuple #[fl a, icv 0] ∧ w' = w) := by
  have cM : okey 4503599627370496 = 4503599627370496 := by decide
  refine ret_of Tryz.func283 rfl Tryz.ntmps283 rfl ?_
  refine c_seq (fun K1 hK1 => ?_)
  refine c_reg ?_ -- region 0 bits.go:61
  refine wl (ro_assign rfl) ?_
  refine wl (ro_assign rfl) ?_
  refine wl_nil (x_then (hK1 _ _ ?_))
  clear hK1 K1
  refine c_seq (fun K2 hK2 => ?_)
  refine c_seq (fun K3 hK3 => ?_)
  refine c_reg ?_ -- region 1 bits.go:63
  refine wl (ro_move rfl) ?_
  refine wl_call rfl en_296 (Abs296 h) ?_
  rintro _ u0 ⟨rfl, hw0⟩
  rw [hw0]
  clear hw0 u0
  refine wl (ro_fcmp (b := 4503599627370496) (r := false) rfl rfl (rgW_lt a) (by decide) (cmp_min hn hf)) ?_
  refine wl_nil (x_then (hK3 _ _ ?_))
  clear hK3 K3
  refine wc_condF rfl ?_
  refine c_skip (x_then (hK2 _ _ ?_))
  clear hK2 K2
  refine forget [(0, _)] ⟨rfl, trivial⟩ (fun e => ?_)
  refine c_seq (fun K4 hK4 => ?_)
  refine c_reg ?_ -- region 3 bits.go:66
  refine wl (ro_move rfl) ?_
  refine wl (ro_assign rfl) ?_
  refine wl (ro_assign rfl) ?_
  refine wl_nil (x_then (hK4 _ _ ?_))
  clear hK4 K4
  refine c_ret ?_
  refine bp_ret Tryz.results283 rfl ?_
  exact ⟨rfl, rfl⟩
theorem Copysign284 {w : World} {a : Nat} (h : W64 a) (hn : ngW a = false) : Ret Tryz.prog 284 [fl 0, fl a] w (fun v w' => v = fl 0 ∧ w' = w) := by
  refine ret_of Tryz.func284 rfl Tryz.ntmps284 rfl ?_
  refine c_seq (fun K1 hK1 => ?_)
  refine c_reg ?_ -- region 0 copysign.go:9
  refine wl (ro_assign rfl) ?_
  refine wl_nil (x_then (hK1 _ _ ?_))
  clear hK1 K1
  refine forget [(0, _), (1, _)] ⟨rfl, rfl, trivial⟩ (fun e => ?_)
  refine c_seq (fun K2 hK2 => ?_)
  refine c_reg ?_ -- region 1 copysign.go:10
  refine wl (ro_move rfl) ?_
  refine wl (ro_bitsF rfl) ?_
  refine wl (ro_hi (a := 0) rfl (by decide)) ?_
  refine wl (ro_move rfl) ?_
  refine wl (ro_bitsF rfl) ?_
  refine wl ((show RO _ _ _ _ _ (u64c 0) from (show sgB (ngW a) = 0 by rw [hn]; rfl) ▸ ro_sg (a := a) rfl h)) ?_
  refine wl (ro_orU (a := rgW 0) (b := 0) rfl rfl (by decide) (by decide)) ?_
  refine wl (ro_from rfl) ?_
  refine wl (ro_assign rfl) ?_
  refine wl_nil (x_then (hK2 _ _ ?_))
  clear hK2 K2
  refine c_ret ?_
  refine bp_ret Tryz.results284 rfl ?_
  exact ⟨rfl, rfl⟩
theorem Inf285 {w : World} : Ret Tryz.prog 285 [icv 1] w (fun v w' => v = fl infB ∧ w' = w) := by
  refine ret_of Tryz.func285 rfl Tryz.ntmps285 rfl ?_
  refine c_seq (fun K1 hK1 => ?_)
  refine c_reg ?_ -- region 0 bits.go:20
  refine wl (ro_assign rfl) ?_
  refine wl_nil (x_then (hK1 _ _ ?_))
  clear hK1 K1
  refine forget [(0, _)] ⟨rfl, trivial⟩ (fun e => ?_)
  refine c_seq (fun K2 hK2 => ?_)
  refine c_reg ?_ -- region 1 bits.go:21
  refine wl (ro_assign rfl) ?_
  refine wl_nil (x_then (hK2 _ _ ?_))
  clear hK2 K2
  refine c_seq (fun K3 hK3 => ?_)
  refine c_seq (fun K4 hK4 => ?_)
  refine c_reg ?_ -- region 2 bits.go:22
  refine wl (ro_move rfl) ?_
  refine wl (ro_cmp rfl rfl rfl) ?_
  refine wl_nil (x_then (hK4 _ _ ?_))
  clear hK4 K4
  refine wc_condT rfl ?_
  refine c_reg ?_ -- region 3 bits.go:23
  refine wl (ro_assign rfl) ?_
  refine wl_nil (x_then (hK3 _ _ ?_))
  clear hK3 K3
  refine forget [(3, _)] ⟨rfl, trivial⟩ (fun e => ?_)
  refine c_seq (fun K5 hK5 => ?_)
  refine c_reg ?_ -- region 5 bits.go:27
  refine wl (ro_move rfl) ?_
  refine wl (ro_from (a := infB) rfl) ?_
  refine wl (ro_assign rfl) ?_
  refine wl_nil (x_then (hK5 _ _ ?_))
  clear hK5 K5
  refine c_ret ?_
  refine bp_ret Tryz.results285 rfl ?_
  exact ⟨rfl, rfl⟩

theorem and_man (a : Nat) (h : a < 9223372036854775808) : a &&& (2 ^ 64 - 1 - 9218868437227405312) = a % 4503599627370496 := by
  have e0 : (2 ^ 64 - 1 - 9218868437227405312 : Nat) = 9227875636482146303 := by decide
  rw [e0]
  have d1 : (a &&& 9227875636482146303) / 2 ^ 52 = a / 2 ^ 52 &&& 9227875636482146303 / 2 ^ 52 := Nat.and_div_two_pow
  have d2 : (a &&& 9227875636482146303) % 2 ^ 52 = a % 2 ^ 52 &&& 9227875636482146303 % 2 ^ 52 := Nat.and_mod_two_pow
  have e1 : (9227875636482146303 / 2 ^ 52 : Nat) = 2 ^ 11 := by decide
  have e2 : (9227875636482146303 % 2 ^ 52 : Nat) = 2 ^ 52 - 1 := by decide
  rw [e1, and_bit] at d1
  rw [e2, Nat.and_two_pow_sub_one_eq_mod, Nat.mod_mod] at d2
  have e3 : a / 2 ^ 52 / 2 ^ 11 = 0 := by omega
  rw [e3, Nat.zero_mod, Nat.zero_mul] at d1
  have := Nat.div_add_mod (a &&& 9227875636482146303) (2 ^ 52)
  rw [d1, d2] at this
  omega
theorem ro_manE {P : Program} {n : Nat} {e : Nat → Option Value} {w : World} {t t' : TypeId} {x y : Operand} {a c : Nat} (hx : evO n e x = some (u64c a)) (hy : evO n e y = some (u64c 9218868437227405312)) (ha : W64 a) (hb : a < 9223372036854775808) (hc : a % 4503599627370496 = c) : RO P n e w (.binOp .andNot t x y t') (u64c c) := by
  have h := ro_andNotU (P := P) (w := w) (t := t) (t' := t') hx hy ha (by decide)
  rw [and_man a hb, hc] at h
  exact h
theorem nearest_shift {m M L : Nat} {e : Int} (h0 : 0 < m) (hM : 4503599627370496 ≤ M) (h : IEq m M L) : double.nearest false M (e + L - 52) = double.nearest false m e := by
  have e1 := nearest_scale false m 52 e (e - 52) (by omega) (by omega)
  have e2 := nearest_scale false M L (e + L - 52) (e - 52) (by omega) (by omega)
  rw [← e1, ← e2]
  unfold IEq at h
  rw [show (2 ^ 52 : Nat) = 4503599627370496 from rfl, h]
theorem nearest_under {M : Nat} {p : Int} (h1 : 4503599627370496 ≤ M) (h2 : M < 9007199254740992) (hp : p + 52 < -1075) : double.nearest false M p = 0 := by
  have hM : M ≠ 0 := by omega
  rw [nearest_rung _ _ _ hM, word_sg]
  have hl : M.log2 = 52 := log2_eq h1 h2
  unfold rungE lastP
  rw [hl]
  have e1 : max (p + ((52 : Nat) : Int) - 52) (-1074) = -1074 := by omega
  rw [e1]
  have e2 : (p - -1074).toNat = 0 := by omega
  have e3 : 54 ≤ (-1074 - p).toNat := by omega
  rw [e2, Nat.pow_zero, Nat.mul_one]
  have h54 : 18014398509481984 ≤ 2 ^ (-1074 - p).toNat := Nat.pow_le_pow_right (n := 2) (i := 54) (by omega) e3
  have : cutE M (-1074 - p).toNat = 0 := by
    unfold cutE
    rw [Nat.div_eq_of_lt (by omega), Nat.mod_eq_of_lt (by omega), if_neg (by omega)]
  rw [this]
  rfl
theorem nearest_over {M : Nat} {p : Int} (h1 : 4503599627370496 ≤ M) (h2 : M < 9007199254740992) (hp : 1023 < p + 52) : double.nearest false M p = infB := by
  have hM : M ≠ 0 := by omega
  rw [nearest_rung _ _ _ hM, word_sg]
  have hl : M.log2 = 52 := log2_eq h1 h2
  unfold rungE lastP
  rw [hl]
  have e1 : max (p + ((52 : Nat) : Int) - 52) (-1074) = p := by omega
  rw [e1]
  have e2 : (p - p).toNat = 0 := by omega
  have e3 : 2046 ≤ (p + 1074).toNat := by omega
  rw [e2, Nat.pow_zero, Nat.mul_one, cutE_zero]
  have h3 : 9214364837600034816 ≤ (p + 1074).toNat * 2 ^ 52 := Nat.mul_le_mul_right (2 ^ 52) e3
  rw [Nat.min_eq_right (by omega)]
  rfl
theorem nrm_eq {r X : Nat} (h : nrm r = X) (hX : isNaNW X = false) : r = X := by
  unfold nrm at h
  by_cases c : isNaNW r = true
  · rw [if_pos c] at h; subst h; exact absurd hX (by decide)
  · rw [if_neg c] at h; exact h

theorem ldexp254 {w : World} {m : Nat} {ex : Int} (hm : m ≤ 9007199254740992) (he : -10000 ≤ ex ∧ ex ≤ 10000) : Ret Tryz.prog 254 [fl (double.nearest false m 0), icv ex] w (fun v w' => v = fl (double.nearest false m ex) ∧ Fram none' w w') := by
  have hF : Fram none' w w := Fram.refl _ _
  by_cases hm0 : m = 0
  · subst hm0
    rw [nearest_zero, nearest_zero]
    refine ret_of Tryz.func254 rfl Tryz.ntmps254 rfl ?_
    refine c_seq (fun K1 hK1 => ?_)
    refine c_reg ?_ -- region 0 ldexp.go:22
    refine wl (ro_assign rfl) ?_
    refine wl_nil (x_then (hK1 _ _ ?_))
    clear hK1 K1
    refine forget [(0, _), (1, _)] ⟨rfl, rfl, trivial⟩ (fun e => ?_)
    refine c_seq (fun K2 hK2 => ?_)
    refine c_block ?_
    refine c_seq (fun K3 hK3 => ?_)
    refine c_reg ?_ -- region 1 ldexp.go:25
    refine wl (ro_move rfl) ?_
    refine wl (ro_fcmp (a := 0) (b := 0) (r := true) rfl rfl (by decide) (by decide) (by decide)) ?_
    refine wl (ro_assign rfl) ?_
    refine wl_nil (x_then (hK3 _ _ ?_))
    clear hK3 K3
    refine wc_condT rfl ?_
    refine c_seq (fun K4 hK4 => ?_)
    refine c_reg ?_ -- region 2 ldexp.go:26
    refine wl (ro_move rfl) ?_
    refine wl (ro_assign rfl) ?_
    refine wl_nil (x_then (hK4 _ _ ?_))
    clear hK4 K4
    refine c_ret (x_blkR (x_thenR ?_))
    refine bp_ret Tryz.results254 rfl ?_
    exact ⟨rfl, hF⟩
  · obtain ⟨L, M, hL, hM1, hM2, hIE, hn⟩ := nearest_int (Nat.pos_of_ne_zero hm0) hm
    have hsh := nearest_shift (e := ex) (Nat.pos_of_ne_zero hm0) hM1 hIE
    obtain ⟨ha1, ha2, ha3, ha4, ha5, ha6⟩ := mkW_law (p := (L : Int) - 52) hM1 hM2 (by omega) (by omega)
    rw [hn, ← hsh]
    clear hn hsh hIE
    have hmk : mkW M ((L : Int) - 52) = (L + 1023) * 4503599627370496 + (M - 4503599627370496) := by
      unfold mkW; rw [show ((L : Int) - 52 + 1075).toNat = L + 1023 by omega]
    generalize mkW M ((L : Int) - 52) = a at *
    have ha0 : 4503599627370496 ≤ a := by rw [hmk]; omega
    have hab : a < 9223372036854775808 := by unfold infB at ha1; omega
    have hdiv : a / 2 ^ 52 = L + 1023 := by rw [hmk]; omega
    have hmod : a % 4503599627370496 = M - 4503599627370496 := by rw [hmk]; omega
    have hnn : isNaNW a = false := by unfold isNaNW; rw [ha4, decide_eq_false_iff_not]; omega
    have c0 : okey 0 = 0 := by decide
    have hoa : okey a = (a : Int) := by unfold okey; rw [ha3, ha4]; rfl
    refine ret_of Tryz.func254 rfl Tryz.ntmps254 rfl ?_
    refine c_seq (fun K1 hK1 => ?_)
    refine c_reg ?_ -- region 0 ldexp.go:22
    refine wl (ro_assign rfl) ?_
    refine wl_nil (x_then (hK1 _ _ ?_))
    clear hK1 K1
    refine forget [(0, _), (1, _)] ⟨rfl, rfl, trivial⟩ (fun e => ?_)
    refine c_seq (fun K2 hK2 => ?_)
    refine c_block ?_
    refine c_seq (fun K3 hK3 => ?_)
    refine c_reg ?_ -- region 1 ldexp.go:25
    refine wl (ro_move rfl) ?_
    refine wl (ro_fcmp (a := a) (b := 0) (r := false) rfl rfl ha2 (by decide) (cmp_nz (by rw [ha4]; exact ha1) hoa ha0)) ?_
    refine wl (ro_assign rfl) ?_
    refine wl_nil (x_then (hK3 _ _ ?_))
    clear hK3 K3
    refine wc_condF rfl ?_
    refine c_seq (fun K4 hK4 => ?_)
    refine c_reg ?_ -- region 3 ldexp.go:27
    refine wl (ro_move rfl) ?_
    refine wl_call rfl en_281 (IsInf281 ha2 (by omega)) ?_
    rintro _ u0 ⟨rfl, hw0⟩
    rw [hw0]
    clear hw0 u0
    refine wl (ro_move rfl) ?_
    refine wlg_yes rfl (ro_move rfl) ?_
    refine wlg_call rfl rfl en_282 (IsNaN282 ha2) ?_
    rintro _ u0 ⟨rfl, hw0⟩
    rw [hw0]
    clear hw0 u0
    refine wl (ro_pick rfl rfl rfl) ?_
    refine wl (ro_assign rfl) ?_
    refine wl_nil (x_then (hK4 _ _ ?_))
    clear hK4 K4
    rw [hnn]
    refine wc_cond rfl (fun hc12 => ?_) (fun hc12 => ?_)
    · try simp only [decide_eq_true_eq, decide_eq_false_iff_not, Bool.not_eq_true', Bool.not_eq_false', Bool.not_eq_eq_eq_not, Bool.not_true, Bool.not_false, beq_iff_eq, bne_iff_ne, ne_eq, beq_eq_false_iff_ne, bne_eq_false_iff_eq, gt_iff_lt, ge_iff_le, Int.not_lt, Int.not_le] at hc12
      cases hc12
    · try simp only [decide_eq_true_eq, decide_eq_false_iff_not, Bool.not_eq_true', Bool.not_eq_false', Bool.not_eq_eq_eq_not, Bool.not_true, Bool.not_false, beq_iff_eq, bne_iff_ne, ne_eq, beq_eq_false_iff_ne, bne_eq_false_iff_eq, gt_iff_lt, ge_iff_le, Int.not_lt, Int.not_le] at hc12
      refine c_skip (x_blk (x_then (hK2 _ _ ?_)))
      clear hK2 K2
      refine forget [(0, _), (1, _)] ⟨rfl, rfl, trivial⟩ (fun e => ?_)
      refine c_seq (fun K5 hK5 => ?_)
      refine c_reg ?_ -- region 5 ldexp.go:30
      refine wl (ro_move rfl) ?_
      refine wl_call rfl en_283 (normalize283 ha2 (by omega) (by omega)) ?_
      rintro _ u0 ⟨rfl, hw0⟩
      rw [hw0]
      clear hw0 u0
      refine wl (ro_move rfl) ?_
      refine wl (ro_extract rfl rfl) ?_
      refine wl (ro_extract rfl rfl) ?_
      refine wl (ro_assign rfl) ?_
      refine wl (ro_assign rfl) ?_
      refine wl_nil (x_then (hK5 _ _ ?_))
      clear hK5 K5
      refine forget [(0, _), (1, _), (5, _)] ⟨rfl, rfl, rfl, trivial⟩ (fun e => ?_)
      refine c_seq (fun K6 hK6 => ?_)
      refine c_reg ?_ -- region 6 ldexp.go:31
      refine wl (ro_move rfl) ?_
      refine wl (ro_move rfl) ?_
      refine wl (ro_arith (k := .i64) (a := ex) (b := 0) (r := ex) rfl rfl (by show some (ex + 0) = _; congr 1; omega) (Go.IntWalk.i64_in _ (by omega))) ?_
      refine wl (ro_assign rfl) ?_
      refine wl_nil (x_then (hK6 _ _ ?_))
      clear hK6 K6
      refine forget [(0, _), (1, _)] ⟨rfl, rfl, trivial⟩ (fun e => ?_)
      refine c_seq (fun K7 hK7 => ?_)
      refine c_reg ?_ -- region 7 ldexp.go:32
      refine wl (ro_move rfl) ?_
      refine wl (ro_bitsF rfl) ?_
      refine wl (ro_assign rfl) ?_
      refine wl_nil (x_then (hK7 _ _ ?_))
      clear hK7 K7
      refine forget [(0, _), (1, _), (6, _)] ⟨rfl, rfl, rfl, trivial⟩ (fun e => ?_)
      refine c_seq (fun K8 hK8 => ?_)
      refine c_reg ?_ -- region 8 ldexp.go:33
      refine wl (ro_move rfl) ?_
      refine wl (ro_move rfl) ?_
      refine wl (ro_shrU rfl rfl (by decide)) ?_
      refine wl (ro_conv (a := ((a / 2 ^ 52 : Nat) : Int)) rfl sc_117 in_3 (Go.IntWalk.i64_in _ (by omega))) ?_
      refine wl (ro_andLoI (a := a / 2 ^ 52) (k := 11) rfl rfl (by omega) (by omega)) ?_
      refine wl (ro_arith (k := .i64) (a := ((a / 2 ^ 52 % 2 ^ 11 : Nat) : Int)) (r := (L : Int)) rfl rfl (by show some (((a / 2 ^ 52 % 2 ^ 11 : Nat) : Int) - 1023) = _; congr 1; rw [hdiv]; omega) (Go.IntWalk.i64_in _ (by omega))) ?_
      refine wl (ro_arith (k := .i64) (a := ex) (b := (L : Int)) rfl rfl rfl (Go.IntWalk.i64_in _ (by omega))) ?_
      refine wl (ro_assign rfl) ?_
      refine wl_nil (x_then (hK8 _ _ ?_))
      clear hK8 K8
      refine c_seq (fun K9 hK9 => ?_)
      refine c_seq (fun K10 hK10 => ?_)
      refine c_reg ?_ -- region 9 ldexp.go:34
      refine wl (ro_move rfl) ?_
      refine wl (ro_cmp rfl rfl rfl) ?_
      refine wl_nil (x_then (hK10 _ _ ?_))
      clear hK10 K10
      refine wc_cond rfl (fun hc38 => ?_) (fun hc38 => ?_)
      · try simp only [decide_eq_true_eq, decide_eq_false_iff_not, Bool.not_eq_true', Bool.not_eq_false', Bool.not_eq_eq_eq_not, Bool.not_true, Bool.not_false, beq_iff_eq, bne_iff_ne, ne_eq, beq_eq_false_iff_ne, bne_eq_false_iff_eq, gt_iff_lt, ge_iff_le, Int.not_lt, Int.not_le] at hc38
        refine c_seq (fun K11 hK11 => ?_)
        refine c_reg ?_ -- region 10 ldexp.go:35
        refine wl (ro_move rfl) ?_
        refine wl_call rfl en_284 (Copysign284 ha2 ha3) ?_
        rintro _ u0 ⟨rfl, hw0⟩
        rw [hw0]
        clear hw0 u0
        refine wl (ro_assign rfl) ?_
        refine wl_nil (x_then (hK11 _ _ ?_))
        clear hK11 K11
        refine c_ret (x_thenR ?_)
        refine bp_ret Tryz.results254 rfl ?_
        exact ⟨by rw [nearest_under hM1 hM2 (by omega)], hF⟩
      · try simp only [decide_eq_true_eq, decide_eq_false_iff_not, Bool.not_eq_true', Bool.not_eq_false', Bool.not_eq_eq_eq_not, Bool.not_true, Bool.not_false, beq_iff_eq, bne_iff_ne, ne_eq, beq_eq_false_iff_ne, bne_eq_false_iff_eq, gt_iff_lt, ge_iff_le, Int.not_lt, Int.not_le] at hc38
        refine c_skip (x_then (hK9 _ _ ?_))
        clear hK9 K9
        refine c_seq (fun K12 hK12 => ?_)
        refine c_seq (fun K13 hK13 => ?_)
        refine c_reg ?_ -- region 11 ldexp.go:37
        refine wl (ro_move rfl) ?_
        refine wl (ro_cmp rfl rfl rfl) ?_
        refine wl_nil (x_then (hK13 _ _ ?_))
        clear hK13 K13
        refine wc_cond rfl (fun hc42 => ?_) (fun hc42 => ?_)
        · try simp only [decide_eq_true_eq, decide_eq_false_iff_not, Bool.not_eq_true', Bool.not_eq_false', Bool.not_eq_eq_eq_not, Bool.not_true, Bool.not_false, beq_iff_eq, bne_iff_ne, ne_eq, beq_eq_false_iff_ne, bne_eq_false_iff_eq, gt_iff_lt, ge_iff_le, Int.not_lt, Int.not_le] at hc42
          refine c_seq (fun K14 hK14 => ?_)
          refine c_seq (fun K15 hK15 => ?_)
          refine c_reg ?_ -- region 12 ldexp.go:38
          refine wl (ro_move rfl) ?_
          refine wl (ro_fcmp (a := a) (b := 0) (r := false) rfl rfl ha2 (by decide) (cmp_pos (by rw [ha4]; exact ha1) hoa)) ?_
          refine wl_nil (x_then (hK15 _ _ ?_))
          clear hK15 K15
          refine wc_condF rfl ?_
          refine c_skip (x_then (hK14 _ _ ?_))
          clear hK14 K14
          refine forget [] trivial (fun e => ?_)
          refine c_seq (fun K16 hK16 => ?_)
          refine c_reg ?_ -- region 14 ldexp.go:41
          refine wl_call rfl en_285 (Inf285) ?_
          rintro _ u0 ⟨rfl, hw0⟩
          rw [hw0]
          clear hw0 u0
          refine wl (ro_assign rfl) ?_
          refine wl_nil (x_then (hK16 _ _ ?_))
          clear hK16 K16
          refine c_ret (x_thenR ?_)
          refine bp_ret Tryz.results254 rfl ?_
          exact ⟨by rw [nearest_over hM1 hM2 (by omega)], hF⟩
        · try simp only [decide_eq_true_eq, decide_eq_false_iff_not, Bool.not_eq_true', Bool.not_eq_false', Bool.not_eq_eq_eq_not, Bool.not_true, Bool.not_false, beq_iff_eq, bne_iff_ne, ne_eq, beq_eq_false_iff_ne, bne_eq_false_iff_eq, gt_iff_lt, ge_iff_le, Int.not_lt, Int.not_le] at hc42
          refine c_skip (x_then (hK12 _ _ ?_))
          clear hK12 K12
          refine forget [(1, _), (6, _)] ⟨rfl, rfl, trivial⟩ (fun e => ?_)
          refine c_seq (fun K17 hK17 => ?_)
          refine c_reg ?_ -- region 15 ldexp.go:43
          refine wl (ro_assign rfl) ?_
          refine wl_nil (x_then (hK17 _ _ ?_))
          clear hK17 K17
          refine c_mid (fun a' w' => w' = w ∧ ∃ (E : Int) (c : Nat), -1022 ≤ E ∧ E ≤ 1023 ∧ W64 c ∧ rgW c < infB ∧ ngW c = false ∧ pmW c = 4503599627370496 ∧ peW c + E = ex + L - 52 ∧ ∃ e, a' = Fr 63 (upds e [(1, icv E), (6, u64c a), (7, fl c)]) []) ?_ ?_
          · skip
            refine c_seq (fun K18 hK18 => ?_)
            refine c_reg ?_ -- region 16 ldexp.go:44
            refine wl (ro_move rfl) ?_
            refine wl (ro_cmp rfl rfl rfl) ?_
            refine wl_nil (x_then (hK18 _ _ ?_))
            clear hK18 K18
            refine wc_cond rfl (fun hc48 => ?_) (fun hc48 => ?_)
            · try simp only [decide_eq_true_eq, decide_eq_false_iff_not, Bool.not_eq_true', Bool.not_eq_false', Bool.not_eq_eq_eq_not, Bool.not_true, Bool.not_false, beq_iff_eq, bne_iff_ne, ne_eq, beq_eq_false_iff_ne, bne_eq_false_iff_eq, gt_iff_lt, ge_iff_le, Int.not_lt, Int.not_le] at hc48
              refine c_seq (fun K19 hK19 => ?_)
              refine c_reg ?_ -- region 17 ldexp.go:45
              refine wl (ro_move rfl) ?_
              refine wl (ro_arith (k := .i64) (a := ex + L) rfl rfl rfl (Go.IntWalk.i64_in _ (by omega))) ?_
              refine wl (ro_assign rfl) ?_
              refine wl_nil (x_then (hK19 _ _ ?_))
              clear hK19 K19
              refine c_reg ?_ -- region 18 ldexp.go:46
              refine wl (ro_assign rfl) ?_
              refine wl_nil (x_then ?_)
              exact ⟨rfl, ex + L + 53, 4368491638549381120, by omega, by omega, by decide, by decide, by decide, by decide, by rw [show peW 4368491638549381120 = -105 by decide]; omega, kp _ ⟨rfl, rfl, rfl, trivial⟩⟩
            · try simp only [decide_eq_true_eq, decide_eq_false_iff_not, Bool.not_eq_true', Bool.not_eq_false', Bool.not_eq_eq_eq_not, Bool.not_true, Bool.not_false, beq_iff_eq, bne_iff_ne, ne_eq, beq_eq_false_iff_ne, bne_eq_false_iff_eq, gt_iff_lt, ge_iff_le, Int.not_lt, Int.not_le] at hc48
              refine c_skip (x_then ?_)
              exact ⟨rfl, ex + L, 4607182418800017408, by omega, by omega, by decide, by decide, by decide, by decide, by rw [show peW 4607182418800017408 = -52 by decide]; omega, kp _ ⟨rfl, rfl, rfl, trivial⟩⟩
          rintro a' w' ⟨hw, E, c, hE1, hE2, hcW, hcf, hcn, hcm, hcp, e, rfl⟩
          rw [hw]
          clear hw w'
          obtain ⟨B, hB⟩ : ∃ B : Nat, E + 1023 = (B : Int) := ⟨(E + 1023).toNat, by omega⟩
          obtain ⟨hb1, hb2, hb3, hb4, hb5, hb6⟩ := mkW_law (p := E - 52) hM1 hM2 (by omega) (by omega)
          have hmk2 := mkW_nat hM1 hB
          have hB2 := bB hE1 hE2 hB
          refine c_seq (fun K20 hK20 => ?_)
          refine c_reg ?_ -- region 19 ldexp.go:48
          refine wl (ro_move rfl) ?_
          refine wl (ro_manE (a := a) rfl rfl ha2 hab hmod) ?_
          refine wl (ro_assign rfl) ?_
          refine wl_nil (x_then (hK20 _ _ ?_))
          clear hK20 K20
          refine forget [(1, _), (6, _), (7, _)] ⟨rfl, rfl, rfl, trivial⟩ (fun e => ?_)
          refine c_seq (fun K21 hK21 => ?_)
          refine c_reg ?_ -- region 20 ldexp.go:49
          refine wl (ro_move rfl) ?_
          refine wl (ro_move rfl) ?_
          refine wl (ro_arith (k := .i64) (a := E) (r := (B : Int)) rfl rfl (congrArg some hB) (bI hB2)) ?_
          refine wl (ro_conv (a := (B : Int)) rfl sc_3 in_117 (bU hB2)) ?_
          refine wl (ro_shlX (a := B) (b := 52) rfl rfl (by decide) (bS hB2)) ?_
          refine wl (ro_orLo (a := B) (k := 52) (b := M - 4503599627370496) rfl rfl (bS hB2) (bM hM2).2 (bM hM2).1) ?_
          refine wl (ro_assign rfl) ?_
          refine wl_nil (x_then (hK21 _ _ ?_))
          clear hK21 K21
          refine forget [(6, _), (7, _)] ⟨rfl, rfl, trivial⟩ (fun e => ?_)
          refine c_seq (fun K22 hK22 => ?_)
          refine c_reg ?_ -- region 21 ldexp.go:50
          refine wl (ro_move rfl) ?_
          refine wl (ro_move rfl) ?_
          refine wl (ro_from rfl) ?_
          refine wl_far (a := c) (b := mkW M (E - 52)) rfl (by rw [hmk2]; rfl) rfl (fun r u1 hr hW F1 => ?_)
          refine wl (ro_assign rfl) ?_
          refine wl_nil (x_then (hK22 _ _ ?_))
          clear hK22 K22
          refine c_ret ?_
          refine bp_ret Tryz.results254 rfl ?_
          refine ⟨?_, F1⟩
          have hfm : fOp .mul c (mkW M (E - 52)) = double.nearest false M (ex + L - 52) := by
            show fMul c (mkW M (E - 52)) = _
            rw [mul_fin hcW hb2 hcf (by rw [hb4]; exact hb1), hcn, hb3, hcm, hb5, hb6, Nat.mul_comm]
            exact nearest_scale false M 52 _ _ (by omega) (by omega)
          rw [hfm] at hr
          rw [nrm_eq hr (nearest_noNaN _ _ _)]
theorem Ldexp217 {w : World} {m : Nat} {ex : Int} (hm : m ≤ 9007199254740992) (he : -10000 ≤ ex ∧ ex ≤ 10000) : Ret Tryz.prog 217 [fl (double.nearest false m 0), icv ex] w (fun v w' => v = fl (double.nearest false m ex) ∧ Fram none' w w') := by
  refine ret_of Tryz.func217 rfl Tryz.ntmps217 rfl ?_
  refine c_seq (fun K1 hK1 => ?_)
  refine c_reg ?_ -- region 0 ldexp.go:15
  refine wl (ro_assign rfl) ?_
  refine wl_nil (x_then (hK1 _ _ ?_))
  clear hK1 K1
  refine forget [(0, _), (1, _)] ⟨rfl, rfl, trivial⟩ (fun e => ?_)
  refine c_seq (fun K2 hK2 => ?_)
  refine wc_condF rfl ?_
  refine c_skip (x_then (hK2 _ _ ?_))
  clear hK2 K2
  refine forget [(0, _), (1, _)] ⟨rfl, rfl, trivial⟩ (fun e => ?_)
  refine c_seq (fun K3 hK3 => ?_)
  refine c_reg ?_ -- region 2 ldexp.go:19
  refine wl (ro_move rfl) ?_
  refine wl (ro_move rfl) ?_
  refine wl_call rfl en_254 (ldexp254 hm he) ?_
  rintro _ u1 ⟨rfl, F1⟩
  refine wl (ro_assign rfl) ?_
  refine wl_nil (x_then (hK3 _ _ ?_))
  clear hK3 K3
  refine c_ret ?_
  refine bp_ret Tryz.results217 rfl ?_
  exact ⟨rfl, F1⟩
end Go.Proofs.Qxb6500568aGreatDoor
