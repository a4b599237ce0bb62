import Derived.Test.Qxb6500568aGreatDoorBl
import Derived.Test.Qxb6500568aGreatDoorBg
/- The real numbers: Parse. -/
namespace Go.Proofs.Qxb6500568aGreatDoor
open Ieee
set_option linter.unusedVariables false
set_option linter.unusedSimpArgs false

theorem ro_mulW {P : Program} {n : Nat} {e : Nat → Option Value} {w : World} {t t' : TypeId} {x y : Operand} {a b : Nat} (hx : evO n e x = some (u64c a)) (hy : evO n e y = some (u64c b)) : RO P n e w (.binOp .mul t x y t') (u64c (a * b % 18446744073709551616)) := by
  intro ds dst ty ps af g
  have : IntKind.u64.wrap ((a : Int) * (b : Int)) = ((a * b % 18446744073709551616 : Nat) : Int) := by rw [IntKind.wrap_u64]; simp
  unfold u64c at *
  simp [execOp, evO_eval hx, evO_eval hy, eqGuard, binOp, Op.intArith, this]
theorem ro_addW {P : Program} {n : Nat} {e : Nat → Option Value} {w : World} {t t' : TypeId} {x y : Operand} {a b : Nat} (hx : evO n e x = some (u64c a)) (hy : evO n e y = some (u64c b)) : RO P n e w (.binOp .add t x y t') (u64c ((a + b) % 18446744073709551616)) := by
  intro ds dst ty ps af g
  have : IntKind.u64.wrap ((a : Int) + (b : Int)) = (((a + b) % 18446744073709551616 : Nat) : Int) := by rw [IntKind.wrap_u64]; simp
  unfold u64c at *
  simp [execOp, evO_eval hx, evO_eval hy, eqGuard, binOp, Op.intArith, this]
theorem dvl_mod {m : Nat} {E : List UInt8} {c : UInt8} : (dvl m E % 18446744073709551616 * 10 % 18446744073709551616 + (c.toNat - 48)) % 18446744073709551616 = dvl m (E ++ [c]) % 18446744073709551616 := by
  rw [dvl_snoc]; omega

theorem run216 {w : World} {s : List UInt8} {i m : Nat} (hs : s.length < 4611686018427387904) (hi : i ≤ s.length) (hm : W64 m) : Ret Tryz.prog 216 [S s, i64c i, u64c m] w (fun v w' => v = .tuple #[u64c (dvl m (dgs (s.drop i)) % 18446744073709551616), i64c (dgs (s.drop i)).length, i64c (i + (dgs (s.drop i)).length)] ∧ w' = w) := by
  refine ret_of Tryz.func216 rfl Tryz.ntmps216 rfl ?_
  refine c_seq (fun K1 hK1 => ?_)
  refine c_reg ?_ -- region 0 text.go:77
  refine wl (ro_assign rfl) ?_
  refine wl (ro_assign rfl) ?_
  refine wl (ro_assign rfl) ?_
  refine wl_nil (x_then (hK1 _ _ ?_))
  clear hK1 K1
  refine forget [(0, _), (1, _), (2, _)] ⟨rfl, rfl, rfl, trivial⟩ (fun e => ?_)
  refine c_seq (fun K2 hK2 => ?_)
  refine c_reg ?_ -- region 1 text.go:78
  refine wl (ro_assign rfl) ?_
  refine wl_nil (x_then (hK2 _ _ ?_))
  clear hK2 K2
  refine forget [(0, _), (1, _), (2, _), (9, _)] ⟨rfl, rfl, rfl, rfl, trivial⟩ (fun e => ?_)
  refine c_mid (fun a' w' => w' = w ∧ ∃ (j : Nat) (E : List UInt8), j ≤ s.length ∧ AllD E ∧ j = i + E.length ∧ s.drop i = E ++ s.drop j ∧ Stop (s.drop j) ∧ ∃ e, a' = Fr 41 (upds e [(1, i64c j), (2, u64c (dvl m E % 18446744073709551616)), (9, i64c E.length)]) []) ?_ ?_
  · skip
    refine c_block ?_
    -- loop@r2: live slots [0, 1, 2, 9]
    refine c_loopG (fun q a' w' => ∃ (j : Nat) (E : List UInt8), q = s.length - j ∧ j ≤ s.length ∧ AllD E ∧ j = i + E.length ∧ s.drop i = E ++ s.drop j ∧ w' = w ∧ ∃ e, a' = Fr 41 (upds e [(0, S s), (1, i64c j), (2, u64c (dvl m E % 18446744073709551616)), (9, i64c E.length)]) []) (s.length - i) ⟨i, [], rfl, hi, .nil, rfl, rfl, rfl, kp _ ⟨rfl, rfl, by rw [show dvl m [] % 18446744073709551616 = m from Nat.mod_eq_of_lt hm]; rfl, rfl, trivial⟩⟩ ?_
    rintro q a' w' ⟨j, E, hq, hj, hE, hjE, hdE, hw, e, rfl⟩
    rw [hw]
    clear hw w'
    refine c_seq (fun K3 hK3 => ?_)
    refine c_seq (fun K4 hK4 => ?_)
    refine c_reg ?_ -- region 2 text.go:79
    refine wl (ro_move rfl) ?_
    refine wl (ro_move rfl) ?_
    refine wl (ro_lenS rfl st_9) ?_
    refine wl (ro_cmp (k := .i64) (a := (j : Int)) (b := (s.length : Int)) rfl rfl rfl) ?_
    refine wl_fork rfl (fun hg14 => ?_) (fun hg14 => ?_)
    · try simp only [decide_eq_true_eq, decide_eq_false_iff_not, Bool.not_eq_true', Bool.not_eq_false', Bool.not_eq_eq_eq_not, Bool.not_true, Bool.not_false, beq_iff_eq, bne_iff_ne, ne_eq, beq_eq_false_iff_ne, bne_eq_false_iff_eq, gt_iff_lt, ge_iff_le, Int.not_lt, Int.not_le] at hg14
      obtain ⟨c, hc⟩ : ∃ c, s[j]? = some c := ⟨_, List.getElem?_eq_getElem (show j < s.length by omega)⟩
      have hdr := drop_get hc
      refine wlg_yes rfl (ro_move rfl) ?_
      refine wlg_yes rfl (ro_move rfl) ?_
      refine wlg_yes rfl (ro_indexS rfl rfl st_9 rfl (hc)) ?_
      refine wlg_yes rfl (ro_cmp rfl rfl rfl) ?_
      refine wl (ro_pick rfl rfl rfl) ?_
      refine wl_fork rfl (fun hg20 => ?_) (fun hg20 => ?_)
      · try simp only [decide_eq_true_eq, decide_eq_false_iff_not, Bool.not_eq_true', Bool.not_eq_false', Bool.not_eq_eq_eq_not, Bool.not_true, Bool.not_false, beq_iff_eq, bne_iff_ne, ne_eq, beq_eq_false_iff_ne, bne_eq_false_iff_eq, gt_iff_lt, ge_iff_le, Int.not_lt, Int.not_le] at hg20
        refine wlg_yes rfl (ro_move rfl) ?_
        refine wlg_yes rfl (ro_move rfl) ?_
        refine wlg_yes rfl (ro_indexS rfl rfl st_9 rfl (hc)) ?_
        refine wlg_yes rfl (ro_cmp rfl rfl rfl) ?_
        refine wl (ro_pick rfl rfl rfl) ?_
        refine wl_nil (x_then (hK4 _ _ ?_))
        clear hK4 K4
        refine wc_cond rfl (fun hc25 => ?_) (fun hc25 => ?_)
        · try simp only [decide_eq_true_eq, decide_eq_false_iff_not, Bool.not_eq_true', Bool.not_eq_false', Bool.not_eq_eq_eq_not, Bool.not_true, Bool.not_false, beq_iff_eq, bne_iff_ne, ne_eq, beq_eq_false_iff_ne, bne_eq_false_iff_eq, gt_iff_lt, ge_iff_le, Int.not_lt, Int.not_le] at hc25
          have hcr : 48 ≤ c.toNat ∧ c.toNat ≤ 57 := by omega
          have hdg := dg_iff.2 hcr
          refine c_skip (x_then (hK3 _ _ ?_))
          clear hK3 K3
          refine c_block ?_
          refine forget [(0, _), (1, _), (2, _), (9, _), (15, _), (16, _), (17, _), (18, _), (21, _), (22, _), (23, _), (24, _)] ⟨rfl, rfl, rfl, rfl, rfl, rfl, rfl, rfl, rfl, rfl, rfl, rfl, trivial⟩ (fun e => ?_)
          refine c_seq (fun K5 hK5 => ?_)
          refine c_reg ?_ -- region 3 text.go:80
          refine wl (ro_move rfl) ?_
          refine wl (ro_mulW (a := dvl m E % 18446744073709551616) (b := 10) rfl rfl) ?_
          refine wl (ro_move rfl) ?_
          refine wl (ro_move rfl) ?_
          refine wl (ro_indexS rfl rfl st_9 rfl (hc)) ?_
          refine wl (ro_arith (k := .u8) (a := (c.toNat : Int)) (r := ((c.toNat - 48 : Nat) : Int)) rfl rfl (by show some ((c.toNat : Int) - 48) = _; congr 1; omega) (Go.IntWalk.u8_in _ (by omega))) ?_
          refine wl (ro_conv (a := ((c.toNat - 48 : Nat) : Int)) rfl sc_5 in_117 (Go.IntWalk.u64_in _ (by omega))) ?_
          refine wl (ro_addW (a := dvl m E % 18446744073709551616 * 10 % 18446744073709551616) (b := c.toNat - 48) rfl rfl) ?_
          refine wl (ro_assign rfl) ?_
          refine wl_nil (x_then (hK5 _ _ ?_))
          clear hK5 K5
          refine forget [(0, _), (1, _), (2, _), (9, _), (15, _), (16, _), (17, _), (18, _), (21, _), (22, _), (23, _), (24, _)] ⟨rfl, rfl, rfl, rfl, rfl, rfl, rfl, rfl, rfl, rfl, rfl, rfl, trivial⟩ (fun e => ?_)
          refine c_seq (fun K6 hK6 => ?_)
          refine c_reg ?_ -- region 4 text.go:81
          refine wl (ro_move rfl) ?_
          refine wl (ro_arith (k := .i64) (a := (E.length : Int)) (r := ((E.length + 1 : Nat) : Int)) rfl rfl (by show some ((E.length : Int) + 1) = _; congr 1) (Go.IntWalk.i64_in _ (by omega))) ?_
          refine wl (ro_assign rfl) ?_
          refine wl_nil (x_then (hK6 _ _ ?_))
          clear hK6 K6
          refine c_reg ?_ -- region 5 text.go:82
          refine wl (ro_move rfl) ?_
          refine wl (ro_arith (k := .i64) (a := (j : Int)) (r := ((j + 1 : Nat) : Int)) rfl rfl (by show some ((j : Int) + 1) = _; congr 1) (Go.IntWalk.i64_in _ (by omega))) ?_
          refine wl (ro_assign rfl) ?_
          refine wl_nil (x_blk (x_then ?_))
          refine ⟨s.length - (j + 1), by omega, j + 1, E ++ [c], rfl, by omega, hE.snoc hdg, by rw [List.length_append, List.length_singleton]; omega, by rw [hdE, hdr]; simp, rfl, kp _ ⟨rfl, rfl, ?_, ?_, trivial⟩⟩
          · rw [← dvl_mod]; rfl
          · rw [List.length_append]; rfl
        · try simp only [decide_eq_true_eq, decide_eq_false_iff_not, Bool.not_eq_true', Bool.not_eq_false', Bool.not_eq_eq_eq_not, Bool.not_true, Bool.not_false, beq_iff_eq, bne_iff_ne, ne_eq, beq_eq_false_iff_ne, bne_eq_false_iff_eq, gt_iff_lt, ge_iff_le, Int.not_lt, Int.not_le] at hc25
          have hnd : isDg c = false := by cases h : isDg c; rfl; exact absurd (dg_iff.1 h).2 (by omega)
          refine c_exit (x_thenX (x_thenX (x_blkX (x_then ?_))))
          exact ⟨rfl, j, E, hj, hE, hjE, hdE, by rw [hdr]; exact .cons hnd, kp _ ⟨rfl, rfl, rfl, trivial⟩⟩
      · try simp only [decide_eq_true_eq, decide_eq_false_iff_not, Bool.not_eq_true', Bool.not_eq_false', Bool.not_eq_eq_eq_not, Bool.not_true, Bool.not_false, beq_iff_eq, bne_iff_ne, ne_eq, beq_eq_false_iff_ne, bne_eq_false_iff_eq, gt_iff_lt, ge_iff_le, Int.not_lt, Int.not_le] at hg20
        have hnd : isDg c = false := by cases h : isDg c; rfl; exact absurd (dg_iff.1 h).1 (by omega)
        refine wlg_no rfl ?_
        refine wlg_no rfl ?_
        refine wlg_no rfl ?_
        refine wlg_no rfl ?_
        refine wl (ro_pick rfl rfl rfl) ?_
        refine wl_nil (x_then (hK4 _ _ ?_))
        clear hK4 K4
        refine wc_condF rfl ?_
        refine c_exit (x_thenX (x_thenX (x_blkX (x_then ?_))))
        exact ⟨rfl, j, E, hj, hE, hjE, hdE, by rw [hdr]; exact .cons hnd, kp _ ⟨rfl, rfl, rfl, trivial⟩⟩
    · try simp only [decide_eq_true_eq, decide_eq_false_iff_not, Bool.not_eq_true', Bool.not_eq_false', Bool.not_eq_eq_eq_not, Bool.not_true, Bool.not_false, beq_iff_eq, bne_iff_ne, ne_eq, beq_eq_false_iff_ne, bne_eq_false_iff_eq, gt_iff_lt, ge_iff_le, Int.not_lt, Int.not_le] at hg14
      refine wlg_no rfl ?_
      refine wlg_no rfl ?_
      refine wlg_no rfl ?_
      refine wlg_no rfl ?_
      refine wl (ro_pick rfl rfl rfl) ?_
      refine wl (ro_move rfl) ?_
      refine wlg_no rfl ?_
      refine wlg_no rfl ?_
      refine wlg_no rfl ?_
      refine wlg_no rfl ?_
      refine wl (ro_pick rfl rfl rfl) ?_
      refine wl_nil (x_then (hK4 _ _ ?_))
      clear hK4 K4
      refine wc_condF rfl ?_
      refine c_exit (x_thenX (x_thenX (x_blkX (x_then ?_))))
      exact ⟨rfl, j, E, hj, hE, hjE, hdE, by rw [List.drop_eq_nil_of_le (by omega)]; exact .nil, kp _ ⟨rfl, rfl, rfl, trivial⟩⟩
  rintro a' w' ⟨hw, j, E, hj, hE, hjE, hdE, hst, e, rfl⟩
  rw [hw]
  clear hw w'
  refine c_seq (fun K7 hK7 => ?_)
  refine c_reg ?_ -- region 6 text.go:84
  refine wl (ro_move rfl) ?_
  refine wl (ro_move rfl) ?_
  refine wl (ro_move rfl) ?_
  refine wl (ro_assign rfl) ?_
  refine wl (ro_assign rfl) ?_
  refine wl (ro_assign rfl) ?_
  refine wl_nil (x_then (hK7 _ _ ?_))
  clear hK7 K7
  refine c_ret ?_
  refine bp_ret Tryz.results216 rfl ?_
  obtain ⟨d1, d2⟩ := dgs_both hE hst
  rw [← hdE] at d1
  rw [d1, ← hjE]
  exact ⟨rfl, rfl⟩

/-- what magnitude answers. -/
def MRes (o : Option Nat) (v : Value) : Prop := (∃ x, o = some x ∧ x < 9223372036854775808 ∧ v = .tuple #[fl x, .bool true]) ∨ (o = none ∧ ∃ x, v = .tuple #[fl x, .bool false])
theorem MRes.no {o : Option Nat} (h : o = none) : MRes o (.tuple #[fl 0, .bool false]) := .inr ⟨h, 0, rfl⟩
theorem MRes.form {o : Option Nat} {v : Value} (h : MRes o v) : ∃ x ok, v = .tuple #[fl x, .bool ok] ∧ (ok = true → o = some x ∧ x < 9223372036854775808) ∧ (ok = false → o = none) := by
  rcases h with ⟨x, h1, h2, h3⟩ | ⟨h1, x, h2⟩
  · exact ⟨x, true, h3, fun _ => ⟨h1, h2⟩, fun h => by cases h⟩
  · exact ⟨x, false, h2, (fun h => by cases h), fun _ => h1⟩
theorem len_aft {s : List UInt8} : (dgs s).length + (aft s).length = s.length := by
  have := congrArg List.length (dgs_aft s); rw [List.length_append] at this; exact this
theorem drop_dgs (s : List UInt8) : s.drop (dgs s).length = aft s := by
  have h := dgs_aft s
  have : (dgs s ++ aft s).drop (dgs s).length = aft s := by rw [List.drop_append_of_le_length (Nat.le_refl _), List.drop_length, List.nil_append]
  rw [h] at this; exact this
theorem dvl16 {d : List UInt8} (h : AllD d) (hl : d.length ≤ 16) : dvl 0 d < 10 ^ 16 := Nat.lt_of_lt_of_le h.lt (ge_pow hl)
theorem pow16 {n : Nat} (h : n + 1 ≤ 16) : W64 (10 ^ n * 10) := by
  rw [← Nat.pow_succ]; exact Nat.lt_of_le_of_lt (ge_pow h) (by decide)
theorem div_num {a b : Nat} (ha : a < 9223372036854775808) (hb : b < 9223372036854775808) (h1 : rgW a < infB) (h2 : rgW b < infB) (h3 : rgW b ≠ 0) : isNaNW (fDiv a b) = false := by
  have na : ngW a = false := by unfold ngW; simp; omega
  have nb : ngW b = false := by unfold ngW; simp; omega
  have wa : W64 a := by unfold W64; omega
  have wb : W64 b := by unfold W64; omega
  unfold fDiv Format.div
  rw [read_fin wa h1, read_fin wb h2, na, nb]
  have hn : pmW b ≠ 0 := fun h => h3 (pm_zero.1 h)
  simp only [Datum.quotient, hn, if_false, Option.map, Option.getD, Format.write, Bool.xor_self]
  exact nearest_noNaN _ _ _
theorem magB_eq (s : List UInt8) : magB s = (if dgs s = [] ∨ 16 < (dgs s).length then none else
  match aft s with
  | [] => if dvl 0 (dgs s) ≤ 9007199254740992 then some (double.nearest false (dvl 0 (dgs s)) 0) else none
  | c :: r =>
    if c = 46 then
      if dgs r = [] ∨ aft r ≠ [] ∨ 16 < (dgs s).length + (dgs r).length ∨ 9007199254740992 < dvl 0 (dgs s ++ dgs r) then none
      else some (fDiv (double.nearest false (dvl 0 (dgs s ++ dgs r)) 0) (double.nearest false (10 ^ (dgs r).length) 0))
    else if c = 112 then
      let (dn, r) := match r with | c :: r' => if c = 45 then (true, r') else (false, c :: r') | [] => (false, [])
      if dgs r = [] ∨ 4 < (dgs r).length ∨ aft r ≠ [] ∨ 9007199254740992 < dvl 0 (dgs s) then none
      else some (double.nearest false (dvl 0 (dgs s)) (if dn then -(dvl 0 (dgs r) : Int) else dvl 0 (dgs r)))
    else none) := rfl

theorem magnitude174 {w : World} {s : List UInt8} (hs : s.length ≤ 24) : Ret Tryz.prog 174 [S s] w (fun v w' => MRes (magN s) v ∧ Fram none' w w') := by
  have hF : Fram none' w w := Fram.refl _ _
  obtain ⟨d, hd⟩ : ∃ d, dgs s = d := ⟨_, rfl⟩
  obtain ⟨r, hr⟩ : ∃ r, aft s = r := ⟨_, rfl⟩
  have hdA : AllD d := by rw [← hd]; exact dgs_all s
  have hlen : d.length + r.length = s.length := by rw [← hd, ← hr]; exact len_aft
  have hdrop : s.drop d.length = r := by rw [← hd, ← hr]; exact drop_dgs s
  have hE := magB_eq s
  rw [hd, hr] at hE
  refine ret_of Tryz.func174 rfl Tryz.ntmps174 rfl ?_
  refine c_seq (fun K1 hK1 => ?_)
  refine c_reg ?_ -- region 0 text.go:110
  refine wl (ro_assign rfl) ?_
  refine wl (ro_assign rfl) ?_
  refine wl_nil (x_then (hK1 _ _ ?_))
  clear hK1 K1
  refine c_seq (fun K2 hK2 => ?_)
  refine c_seq (fun K3 hK3 => ?_)
  refine c_reg ?_ -- region 1 text.go:111
  refine wl (ro_move rfl) ?_
  refine wl (ro_eqS rfl rfl rfl) ?_
  refine wl_nil (x_then (hK3 _ _ ?_))
  clear hK3 K3
  refine wc_cond rfl (fun hc16 => ?_) (fun hc16 => ?_)
  · try simp only [decide_eq_true_eq, decide_eq_false_iff_not, Bool.not_eq_true', Bool.not_eq_false', Bool.not_eq_eq_eq_not, Bool.not_true, Bool.not_false, beq_iff_eq, bne_iff_ne, ne_eq, beq_eq_false_iff_ne, bne_eq_false_iff_eq, gt_iff_lt, ge_iff_le, Int.not_lt, Int.not_le] at hc16
    refine c_seq (fun K4 hK4 => ?_)
    refine c_reg ?_ -- region 2 text.go:112
    refine wl (ro_from (a := infB) rfl) ?_
    refine wl (ro_assign rfl) ?_
    refine wl (ro_assign rfl) ?_
    refine wl_nil (x_then (hK4 _ _ ?_))
    clear hK4 K4
    refine c_ret (x_thenR ?_)
    refine bp_ret Tryz.results174 rfl ?_
    exact ⟨.inl ⟨infB, by unfold magN; rw [if_pos hc16], by decide, rfl⟩, hF⟩
  · try simp only [decide_eq_true_eq, decide_eq_false_iff_not, Bool.not_eq_true', Bool.not_eq_false', Bool.not_eq_eq_eq_not, Bool.not_true, Bool.not_false, beq_iff_eq, bne_iff_ne, ne_eq, beq_eq_false_iff_ne, bne_eq_false_iff_eq, gt_iff_lt, ge_iff_le, Int.not_lt, Int.not_le] at hc16
    rw [← mag_open s hc16] at hE
    refine c_skip (x_then (hK2 _ _ ?_))
    clear hK2 K2
    refine forget [(0, _)] ⟨rfl, trivial⟩ (fun e => ?_)
    refine c_seq (fun K5 hK5 => ?_)
    refine c_reg ?_ -- region 3 text.go:114
    refine wl (ro_move rfl) ?_
    refine wl_call rfl en_216 (run216 (i := 0) (m := 0) (by omega) (by omega) (by decide)) ?_
    rintro _ u0 ⟨rfl, hw0⟩
    rw [hw0]
    clear hw0 u0
    rw [List.drop_zero, hd, Nat.zero_add]
    refine wl (ro_move rfl) ?_
    refine wl (ro_extract rfl rfl) ?_
    refine wl (ro_extract rfl rfl) ?_
    refine wl (ro_extract rfl rfl) ?_
    refine wl (ro_assign rfl) ?_
    refine wl (ro_assign rfl) ?_
    refine wl (ro_assign rfl) ?_
    refine wl_nil (x_then (hK5 _ _ ?_))
    clear hK5 K5
    refine c_seq (fun K6 hK6 => ?_)
    refine c_seq (fun K7 hK7 => ?_)
    refine c_reg ?_ -- region 4 text.go:115
    refine wl (ro_move rfl) ?_
    refine wl (ro_cmp (k := .i64) (a := (d.length : Int)) rfl rfl rfl) ?_
    refine wl_fork rfl (fun hg26 => ?_) (fun hg26 => ?_)
    · try simp only [decide_eq_true_eq, decide_eq_false_iff_not, Bool.not_eq_true', Bool.not_eq_false', Bool.not_eq_eq_eq_not, Bool.not_true, Bool.not_false, beq_iff_eq, bne_iff_ne, ne_eq, beq_eq_false_iff_ne, bne_eq_false_iff_eq, gt_iff_lt, ge_iff_le, Int.not_lt, Int.not_le] at hg26
      refine wlg_no rfl ?_
      refine wlg_no rfl ?_
      refine wl (ro_pick rfl rfl rfl) ?_
      refine wl_nil (x_then (hK7 _ _ ?_))
      clear hK7 K7
      refine wc_condT rfl ?_
      refine c_seq (fun K8 hK8 => ?_)
      refine c_reg ?_ -- region 5 text.go:116
      refine wl (ro_assign rfl) ?_
      refine wl (ro_assign rfl) ?_
      refine wl_nil (x_then (hK8 _ _ ?_))
      clear hK8 K8
      refine c_ret (x_thenR ?_)
      refine bp_ret Tryz.results174 rfl ?_
      exact ⟨.no (by rw [hE, if_pos (.inl (List.eq_nil_of_length_eq_zero (by omega)))]), hF⟩
    · try simp only [decide_eq_true_eq, decide_eq_false_iff_not, Bool.not_eq_true', Bool.not_eq_false', Bool.not_eq_eq_eq_not, Bool.not_true, Bool.not_false, beq_iff_eq, bne_iff_ne, ne_eq, beq_eq_false_iff_ne, bne_eq_false_iff_eq, gt_iff_lt, ge_iff_le, Int.not_lt, Int.not_le] at hg26
      refine wlg_yes rfl (ro_move rfl) ?_
      refine wlg_yes rfl (ro_cmp rfl rfl rfl) ?_
      refine wl (ro_pick rfl rfl rfl) ?_
      refine wl_nil (x_then (hK7 _ _ ?_))
      clear hK7 K7
      refine wc_cond rfl (fun hc29 => ?_) (fun hc29 => ?_)
      · try simp only [decide_eq_true_eq, decide_eq_false_iff_not, Bool.not_eq_true', Bool.not_eq_false', Bool.not_eq_eq_eq_not, Bool.not_true, Bool.not_false, beq_iff_eq, bne_iff_ne, ne_eq, beq_eq_false_iff_ne, bne_eq_false_iff_eq, gt_iff_lt, ge_iff_le, Int.not_lt, Int.not_le] at hc29
        refine c_seq (fun K9 hK9 => ?_)
        refine c_reg ?_ -- region 5 text.go:116
        refine wl (ro_assign rfl) ?_
        refine wl (ro_assign rfl) ?_
        refine wl_nil (x_then (hK9 _ _ ?_))
        clear hK9 K9
        refine c_ret (x_thenR ?_)
        refine bp_ret Tryz.results174 rfl ?_
        exact ⟨.no (by rw [hE, if_pos (.inr (by omega))]), hF⟩
      · try simp only [decide_eq_true_eq, decide_eq_false_iff_not, Bool.not_eq_true', Bool.not_eq_false', Bool.not_eq_eq_eq_not, Bool.not_true, Bool.not_false, beq_iff_eq, bne_iff_ne, ne_eq, beq_eq_false_iff_ne, bne_eq_false_iff_eq, gt_iff_lt, ge_iff_le, Int.not_lt, Int.not_le] at hc29
        have hd16 : d.length ≤ 16 := by omega
        have hd0 : d ≠ [] := by intro h; subst h; exact hg26 rfl
        rw [if_neg (by rintro (h | h); exact hd0 h; omega)] at hE
        have hv16 := dvl16 hdA hd16
        rw [Nat.mod_eq_of_lt (by omega)]
        refine c_skip (x_then (hK6 _ _ ?_))
        clear hK6 K6
        refine c_seq (fun K10 hK10 => ?_)
        refine c_seq (fun K11 hK11 => ?_)
        refine c_reg ?_ -- region 6 text.go:118
        refine wl (ro_move rfl) ?_
        refine wl (ro_move rfl) ?_
        refine wl (ro_lenS rfl st_9) ?_
        refine wl (ro_cmp (k := .i64) (a := (d.length : Int)) (b := (s.length : Int)) rfl rfl rfl) ?_
        refine wl_nil (x_then (hK11 _ _ ?_))
        clear hK11 K11
        refine wc_cond rfl (fun hc33 => ?_) (fun hc33 => ?_)
        · try simp only [decide_eq_true_eq, decide_eq_false_iff_not, Bool.not_eq_true', Bool.not_eq_false', Bool.not_eq_eq_eq_not, Bool.not_true, Bool.not_false, beq_iff_eq, bne_iff_ne, ne_eq, beq_eq_false_iff_ne, bne_eq_false_iff_eq, gt_iff_lt, ge_iff_le, Int.not_lt, Int.not_le] at hc33
          have hr0 : r = [] := List.eq_nil_of_length_eq_zero (by omega)
          rw [hr0] at hE
          simp only at hE
          refine c_seq (fun K12 hK12 => ?_)
          refine c_reg ?_ -- region 7 text.go:119
          refine wl (ro_move rfl) ?_
          refine wl ((show RO _ _ _ _ _ (fl (double.nearest false (dvl 0 d) 0)) from ro_i2f (m := (dvl 0 d : Int)) rfl sc_117 (by kernel_rfl))) ?_
          refine wl (ro_move rfl) ?_
          refine wl (ro_cmpU (a := dvl 0 d) (b := 9007199254740992) rfl rfl rfl) ?_
          refine wl (ro_assign rfl) ?_
          refine wl (ro_assign rfl) ?_
          refine wl_nil (x_then (hK12 _ _ ?_))
          clear hK12 K12
          refine c_ret (x_thenR ?_)
          refine bp_ret Tryz.results174 rfl ?_
          refine ⟨?_, hF⟩
          rw [hE]
          by_cases hb : dvl 0 d ≤ 9007199254740992
          · rw [if_pos hb]; exact .inl ⟨_, rfl, nearest_pos _ _, by rw [decide_eq_true hb]⟩
          · rw [if_neg hb]; exact .inr ⟨rfl, _, by rw [decide_eq_false hb]⟩
        · try simp only [decide_eq_true_eq, decide_eq_false_iff_not, Bool.not_eq_true', Bool.not_eq_false', Bool.not_eq_eq_eq_not, Bool.not_true, Bool.not_false, beq_iff_eq, bne_iff_ne, ne_eq, beq_eq_false_iff_ne, bne_eq_false_iff_eq, gt_iff_lt, ge_iff_le, Int.not_lt, Int.not_le] at hc33
          obtain ⟨c, r', hrc⟩ : ∃ c r', r = c :: r' := by
            cases r with
            | nil => exact absurd (show (d.length : Int) = s.length by simp at hlen; omega) hc33
            | cons c r' => exact ⟨c, r', rfl⟩
          have hci : s[d.length]? = some c := by
            have := congrArg List.head? hdrop
            rw [hrc, List.head?_drop] at this
            exact this
          have hdr1 : s.drop (d.length + 1) = r' := by rw [← List.drop_drop, hdrop, hrc]; rfl
          rw [hrc] at hE hlen
          simp only [List.length_cons] at hlen
          simp only at hE
          obtain ⟨k, hk⟩ : ∃ k, dgs r' = k := ⟨_, rfl⟩
          have hkA : AllD k := by rw [← hk]; exact dgs_all r'
          have hkl : k.length + (aft r').length = r'.length := by rw [← hk]; exact len_aft
          refine c_skip (x_then (hK10 _ _ ?_))
          clear hK10 K10
          refine c_seq (fun K13 hK13 => ?_)
          refine c_seq (fun K14 hK14 => ?_)
          refine c_reg ?_ -- region 8 text.go:121
          refine wl (ro_move rfl) ?_
          refine wl (ro_move rfl) ?_
          refine wl (ro_indexS rfl rfl st_9 rfl (hci)) ?_
          refine wl_nil (x_then (hK14 _ _ ?_))
          clear hK14 K14
          refine c_block ?_
          refine forget [(0, _), (4, _), (5, _), (6, _), (40, _)] ⟨rfl, rfl, rfl, rfl, rfl, trivial⟩ (fun e => ?_)
          refine c_seq (fun K15 hK15 => ?_)
          refine c_reg ?_ -- region 9 text.go:122
          refine wl (ro_cmp rfl rfl rfl) ?_
          refine wl (ro_assign rfl) ?_
          refine wl_nil (x_then (hK15 _ _ ?_))
          clear hK15 K15
          refine wc_cond rfl (fun hc41 => ?_) (fun hc41 => ?_)
          · try simp only [decide_eq_true_eq, decide_eq_false_iff_not, Bool.not_eq_true', Bool.not_eq_false', Bool.not_eq_eq_eq_not, Bool.not_true, Bool.not_false, beq_iff_eq, bne_iff_ne, ne_eq, beq_eq_false_iff_ne, bne_eq_false_iff_eq, gt_iff_lt, ge_iff_le, Int.not_lt, Int.not_le] at hc41
            have hc46 : c = 46 := UInt8.toNat_inj.1 (show c.toNat = 46 by omega)
            rw [if_pos hc46, hk] at hE
            refine c_seq (fun K16 hK16 => ?_)
            refine c_reg ?_ -- region 10 text.go:123
            refine wl (ro_move rfl) ?_
            refine wl (ro_move rfl) ?_
            refine wl (ro_arith (k := .i64) (a := (d.length : Int)) (r := ((d.length + 1 : Nat) : Int)) rfl rfl (by show some ((d.length : Int) + 1) = _; congr 1) (Go.IntWalk.i64_in _ (by omega))) ?_
            refine wl (ro_move rfl) ?_
            refine wl_call rfl en_216 (run216 (i := d.length + 1) (m := dvl 0 d) (by omega) (by omega) (by unfold W64; omega)) ?_
            rintro _ u0 ⟨rfl, hw0⟩
            rw [hw0]
            clear hw0 u0
            rw [hdr1, hk, ← dvl_app]
            refine wl (ro_move rfl) ?_
            refine wl (ro_extract rfl rfl) ?_
            refine wl (ro_extract rfl rfl) ?_
            refine wl (ro_extract rfl rfl) ?_
            refine wl (ro_assign rfl) ?_
            refine wl (ro_assign rfl) ?_
            refine wl (ro_assign rfl) ?_
            refine wl_nil (x_then (hK16 _ _ ?_))
            clear hK16 K16
            refine c_seq (fun K17 hK17 => ?_)
            refine c_seq (fun K18 hK18 => ?_)
            refine c_reg ?_ -- region 11 text.go:124
            refine wl (ro_move rfl) ?_
            refine wl (ro_cmp (k := .i64) (a := (k.length : Int)) rfl rfl rfl) ?_
            refine wl_fork rfl (fun hg54 => ?_) (fun hg54 => ?_)
            · try simp only [decide_eq_true_eq, decide_eq_false_iff_not, Bool.not_eq_true', Bool.not_eq_false', Bool.not_eq_eq_eq_not, Bool.not_true, Bool.not_false, beq_iff_eq, bne_iff_ne, ne_eq, beq_eq_false_iff_ne, bne_eq_false_iff_eq, gt_iff_lt, ge_iff_le, Int.not_lt, Int.not_le] at hg54
              rw [if_pos (.inl (List.eq_nil_of_length_eq_zero (by omega)))] at hE
              refine wlg_no rfl ?_
              refine wlg_no rfl ?_
              refine wlg_no rfl ?_
              refine wlg_no rfl ?_
              refine wl (ro_pick rfl rfl rfl) ?_
              refine wl (ro_move rfl) ?_
              refine wlg_no rfl ?_
              refine wlg_no rfl ?_
              refine wlg_no rfl ?_
              refine wlg_no rfl ?_
              refine wl (ro_pick rfl rfl rfl) ?_
              refine wl (ro_move rfl) ?_
              refine wlg_no rfl ?_
              refine wlg_no rfl ?_
              refine wl (ro_pick rfl rfl rfl) ?_
              refine wl_nil (x_then (hK18 _ _ ?_))
              clear hK18 K18
              refine wc_condT rfl ?_
              refine c_seq (fun K19 hK19 => ?_)
              refine c_reg ?_ -- region 12 text.go:125
              refine wl (ro_assign rfl) ?_
              refine wl (ro_assign rfl) ?_
              refine wl_nil (x_then (hK19 _ _ ?_))
              clear hK19 K19
              refine c_ret (x_thenR (x_blkR (x_thenR ?_)))
              refine bp_ret Tryz.results174 rfl ?_
              exact ⟨.no hE, hF⟩
            · try simp only [decide_eq_true_eq, decide_eq_false_iff_not, Bool.not_eq_true', Bool.not_eq_false', Bool.not_eq_eq_eq_not, Bool.not_true, Bool.not_false, beq_iff_eq, bne_iff_ne, ne_eq, beq_eq_false_iff_ne, bne_eq_false_iff_eq, gt_iff_lt, ge_iff_le, Int.not_lt, Int.not_le] at hg54
              refine wlg_yes rfl (ro_move rfl) ?_
              refine wlg_yes rfl (ro_move rfl) ?_
              refine wlg_yes rfl (ro_lenS rfl st_9) ?_
              refine wlg_yes rfl (ro_cmp (k := .i64) (a := ((d.length + 1 + k.length : Nat) : Int)) (b := (s.length : Int)) rfl rfl rfl) ?_
              refine wl (ro_pick rfl rfl rfl) ?_
              refine wl_fork rfl (fun hg60 => ?_) (fun hg60 => ?_)
              · try simp only [decide_eq_true_eq, decide_eq_false_iff_not, Bool.not_eq_true', Bool.not_eq_false', Bool.not_eq_eq_eq_not, Bool.not_true, Bool.not_false, beq_iff_eq, bne_iff_ne, ne_eq, beq_eq_false_iff_ne, bne_eq_false_iff_eq, gt_iff_lt, ge_iff_le, Int.not_lt, Int.not_le] at hg60
                rw [if_pos (.inr (.inl (fun h => by rw [h] at hkl; simp at hkl; omega)))] at hE
                refine wlg_no rfl ?_
                refine wlg_no rfl ?_
                refine wlg_no rfl ?_
                refine wlg_no rfl ?_
                refine wl (ro_pick rfl rfl rfl) ?_
                refine wl (ro_move rfl) ?_
                refine wlg_no rfl ?_
                refine wlg_no rfl ?_
                refine wl (ro_pick rfl rfl rfl) ?_
                refine wl_nil (x_then (hK18 _ _ ?_))
                clear hK18 K18
                refine wc_condT rfl ?_
                refine c_seq (fun K20 hK20 => ?_)
                refine c_reg ?_ -- region 12 text.go:125
                refine wl (ro_assign rfl) ?_
                refine wl (ro_assign rfl) ?_
                refine wl_nil (x_then (hK20 _ _ ?_))
                clear hK20 K20
                refine c_ret (x_thenR (x_blkR (x_thenR ?_)))
                refine bp_ret Tryz.results174 rfl ?_
                exact ⟨.no hE, hF⟩
              · try simp only [decide_eq_true_eq, decide_eq_false_iff_not, Bool.not_eq_true', Bool.not_eq_false', Bool.not_eq_eq_eq_not, Bool.not_true, Bool.not_false, beq_iff_eq, bne_iff_ne, ne_eq, beq_eq_false_iff_ne, bne_eq_false_iff_eq, gt_iff_lt, ge_iff_le, Int.not_lt, Int.not_le] at hg60
                refine wlg_yes rfl (ro_move rfl) ?_
                refine wlg_yes rfl (ro_move rfl) ?_
                refine wlg_yes rfl (ro_arith (k := .i64) (a := (d.length : Int)) (b := (k.length : Int)) (r := ((d.length + k.length : Nat) : Int)) rfl rfl (by show some ((d.length : Int) + (k.length : Int)) = _; congr 1) (Go.IntWalk.i64_in _ (by omega))) ?_
                refine wlg_yes rfl (ro_cmp (k := .i64) (a := ((d.length + k.length : Nat) : Int)) rfl rfl rfl) ?_
                refine wl (ro_pick rfl rfl rfl) ?_
                refine wl_fork rfl (fun hg66 => ?_) (fun hg66 => ?_)
                · try simp only [decide_eq_true_eq, decide_eq_false_iff_not, Bool.not_eq_true', Bool.not_eq_false', Bool.not_eq_eq_eq_not, Bool.not_true, Bool.not_false, beq_iff_eq, bne_iff_ne, ne_eq, beq_eq_false_iff_ne, bne_eq_false_iff_eq, gt_iff_lt, ge_iff_le, Int.not_lt, Int.not_le] at hg66
                  rw [if_pos (.inr (.inr (.inl (by omega))))] at hE
                  refine wlg_no rfl ?_
                  refine wlg_no rfl ?_
                  refine wl (ro_pick rfl rfl rfl) ?_
                  refine wl_nil (x_then (hK18 _ _ ?_))
                  clear hK18 K18
                  refine wc_condT rfl ?_
                  refine c_seq (fun K21 hK21 => ?_)
                  refine c_reg ?_ -- region 12 text.go:125
                  refine wl (ro_assign rfl) ?_
                  refine wl (ro_assign rfl) ?_
                  refine wl_nil (x_then (hK21 _ _ ?_))
                  clear hK21 K21
                  refine c_ret (x_thenR (x_blkR (x_thenR ?_)))
                  refine bp_ret Tryz.results174 rfl ?_
                  exact ⟨.no hE, hF⟩
                · try simp only [decide_eq_true_eq, decide_eq_false_iff_not, Bool.not_eq_true', Bool.not_eq_false', Bool.not_eq_eq_eq_not, Bool.not_true, Bool.not_false, beq_iff_eq, bne_iff_ne, ne_eq, beq_eq_false_iff_ne, bne_eq_false_iff_eq, gt_iff_lt, ge_iff_le, Int.not_lt, Int.not_le] at hg66
                  have hdk : d.length + k.length ≤ 16 := by omega
                  have hdkA : AllD (d ++ k) := by intro c hc; rcases List.mem_append.1 hc with h | h; exact hdA c h; exact hkA c h
                  have hv2 := dvl16 hdkA (by rw [List.length_append]; exact hdk)
                  rw [Nat.mod_eq_of_lt (by omega)]
                  refine wlg_yes rfl (ro_move rfl) ?_
                  refine wlg_yes rfl (ro_cmpU (a := dvl 0 (d ++ k)) (b := 9007199254740992) rfl rfl rfl) ?_
                  refine wl (ro_pick rfl rfl rfl) ?_
                  refine wl_nil (x_then (hK18 _ _ ?_))
                  clear hK18 K18
                  refine wc_cond rfl (fun hc69 => ?_) (fun hc69 => ?_)
                  · try simp only [decide_eq_true_eq, decide_eq_false_iff_not, Bool.not_eq_true', Bool.not_eq_false', Bool.not_eq_eq_eq_not, Bool.not_true, Bool.not_false, beq_iff_eq, bne_iff_ne, ne_eq, beq_eq_false_iff_ne, bne_eq_false_iff_eq, gt_iff_lt, ge_iff_le, Int.not_lt, Int.not_le] at hc69
                    rw [if_pos (.inr (.inr (.inr hc69)))] at hE
                    refine c_seq (fun K22 hK22 => ?_)
                    refine c_reg ?_ -- region 12 text.go:125
                    refine wl (ro_assign rfl) ?_
                    refine wl (ro_assign rfl) ?_
                    refine wl_nil (x_then (hK22 _ _ ?_))
                    clear hK22 K22
                    refine c_ret (x_thenR (x_blkR (x_thenR ?_)))
                    refine bp_ret Tryz.results174 rfl ?_
                    exact ⟨.no hE, hF⟩
                  · try simp only [decide_eq_true_eq, decide_eq_false_iff_not, Bool.not_eq_true', Bool.not_eq_false', Bool.not_eq_eq_eq_not, Bool.not_true, Bool.not_false, beq_iff_eq, bne_iff_ne, ne_eq, beq_eq_false_iff_ne, bne_eq_false_iff_eq, gt_iff_lt, ge_iff_le, Int.not_lt, Int.not_le] at hc69
                    have hsm : dvl 0 (d ++ k) ≤ 9007199254740992 := by change ¬ 9007199254740992 < dvl 0 (d ++ k) at hc69; omega
                    have hk0 : k ≠ [] := by intro h; subst h; exact hg54 rfl
                    have ha0 : aft r' = [] := List.eq_nil_of_length_eq_zero (by omega)
                    rw [if_neg (by rintro (h | h | h | h); exact hk0 h; exact h ha0; omega; omega)] at hE
                    refine c_skip (x_then (hK17 _ _ ?_))
                    clear hK17 K17
                    refine forget [(7, _), (8, _)] ⟨rfl, rfl, trivial⟩ (fun e => ?_)
                    refine c_seq (fun K23 hK23 => ?_)
                    refine c_reg ?_ -- region 13 text.go:127
                    refine wl (ro_assign rfl) ?_
                    refine wl_nil (x_then (hK23 _ _ ?_))
                    clear hK23 K23
                    refine forget [(7, _), (8, _), (10, _)] ⟨rfl, rfl, rfl, trivial⟩ (fun e => ?_)
                    refine c_mid (fun a' w' => w' = w ∧ ∃ e, a' = Fr 133 (upds e [(7, u64c (dvl 0 (d ++ k))), (10, u64c (10 ^ k.length))]) []) ?_ ?_
                    · skip
                      refine c_block ?_
                      -- loop@r14: live slots [7, 8, 10]
                      refine c_loopG (fun q a' w' => ∃ (j : Nat), q = j ∧ j ≤ k.length ∧ w' = w ∧ ∃ e, a' = Fr 133 (upds e [(7, u64c (dvl 0 (d ++ k))), (8, i64c j), (10, u64c (10 ^ (k.length - j)))]) []) k.length ⟨k.length, rfl, Nat.le_refl _, rfl, kp _ ⟨rfl, rfl, by rw [Nat.sub_self]; rfl, trivial⟩⟩ ?_
                      rintro q a' w' ⟨j, hq, hj, hw, e, rfl⟩
                      rw [hw]
                      clear hw w'
                      refine c_seq (fun K24 hK24 => ?_)
                      refine c_seq (fun K25 hK25 => ?_)
                      refine c_reg ?_ -- region 14 text.go:128
                      refine wl (ro_move rfl) ?_
                      refine wl (ro_cmp (k := .i64) (a := (j : Int)) rfl rfl rfl) ?_
                      refine wl_nil (x_then (hK25 _ _ ?_))
                      clear hK25 K25
                      refine wc_cond rfl (fun hc71 => ?_) (fun hc71 => ?_)
                      · try simp only [decide_eq_true_eq, decide_eq_false_iff_not, Bool.not_eq_true', Bool.not_eq_false', Bool.not_eq_eq_eq_not, Bool.not_true, Bool.not_false, beq_iff_eq, bne_iff_ne, ne_eq, beq_eq_false_iff_ne, bne_eq_false_iff_eq, gt_iff_lt, ge_iff_le, Int.not_lt, Int.not_le] at hc71
                        refine c_skip (x_then (hK24 _ _ ?_))
                        clear hK24 K24
                        refine forget [(7, _), (8, _), (10, _)] ⟨rfl, rfl, rfl, trivial⟩ (fun e => ?_)
                        refine c_seq (fun K26 hK26 => ?_)
                        refine c_block ?_
                        refine c_reg ?_ -- region 16 text.go:129
                        refine wl (ro_move rfl) ?_
                        refine wl (ro_mulU (a := 10 ^ (k.length - j)) (b := 10) rfl rfl (pow16 (by omega))) ?_
                        refine wl (ro_assign rfl) ?_
                        refine wl_nil (x_blk (x_then (hK26 _ _ ?_)))
                        clear hK26 K26
                        refine c_reg ?_ -- region 15 text.go:128
                        refine wl (ro_move rfl) ?_
                        refine wl (ro_arith (k := .i64) (a := (j : Int)) (r := ((j - 1 : Nat) : Int)) rfl rfl (by show some ((j : Int) - 1) = _; congr 1; omega) (Go.IntWalk.i64_in _ (by omega))) ?_
                        refine wl (ro_assign rfl) ?_
                        refine wl_nil (x_then ?_)
                        exact ⟨j - 1, by omega, j - 1, rfl, by omega, rfl, kp _ ⟨rfl, rfl, by rw [show k.length - (j - 1) = k.length - j + 1 by omega, Nat.pow_succ]; rfl, trivial⟩⟩
                      · try simp only [decide_eq_true_eq, decide_eq_false_iff_not, Bool.not_eq_true', Bool.not_eq_false', Bool.not_eq_eq_eq_not, Bool.not_true, Bool.not_false, beq_iff_eq, bne_iff_ne, ne_eq, beq_eq_false_iff_ne, bne_eq_false_iff_eq, gt_iff_lt, ge_iff_le, Int.not_lt, Int.not_le] at hc71
                        refine c_exit (x_thenX (x_thenX (x_blkX (x_then ?_))))
                        have hj0 : j = 0 := by omega
                        subst hj0
                        exact ⟨rfl, kp _ ⟨rfl, rfl, trivial⟩⟩
                    rintro a' w' ⟨hw, e, rfl⟩
                    rw [hw]
                    clear hw w'
                    have hK16 : 10 ^ k.length ≤ 10 ^ 16 := ge_pow (by omega)
                    have hKp : 0 < 10 ^ k.length := Nat.pow_pos (by decide)
                    refine c_seq (fun K27 hK27 => ?_)
                    refine c_reg ?_ -- region 17 text.go:131
                    refine wl (ro_move rfl) ?_
                    refine wl ((show RO _ _ _ _ _ (fl (double.nearest false (dvl 0 (d ++ k)) 0)) from ro_i2f (m := (dvl 0 (d ++ k) : Int)) rfl sc_117 (by kernel_rfl))) ?_
                    refine wl (ro_move rfl) ?_
                    refine wl ((show RO _ _ _ _ _ (fl (double.nearest false (10 ^ k.length) 0)) from ro_i2f (m := ((10 ^ k.length : Nat) : Int)) rfl sc_117 (by kernel_rfl))) ?_
                    refine wl_far rfl rfl rfl (fun x u1 hx hWx F1 => ?_)
                    refine wl (ro_assign rfl) ?_
                    refine wl (ro_assign rfl) ?_
                    refine wl_nil (x_then (hK27 _ _ ?_))
                    clear hK27 K27
                    refine c_ret (x_blkR (x_thenR ?_))
                    refine bp_ret Tryz.results174 rfl ?_
                    refine ⟨.inl ⟨_, hE, div_pos (nearest_pos _ _) (nearest_pos _ _) (nearest_fin _ (by omega)) (nearest_fin _ (by omega)) (nearest_nz (by omega) (by omega)), ?_⟩, F1⟩
                    have hnn : isNaNW (fDiv (double.nearest false (dvl 0 (d ++ k)) 0) (double.nearest false (10 ^ k.length) 0)) = false := div_num (nearest_pos _ _) (nearest_pos _ _) (nearest_fin _ (by omega)) (nearest_fin _ (by omega)) (nearest_nz (by omega) (by omega))
                    rw [nrm_eq (X := fDiv (double.nearest false (dvl 0 (d ++ k)) 0) (double.nearest false (10 ^ k.length) 0)) hx hnn]
          · try simp only [decide_eq_true_eq, decide_eq_false_iff_not, Bool.not_eq_true', Bool.not_eq_false', Bool.not_eq_eq_eq_not, Bool.not_true, Bool.not_false, beq_iff_eq, bne_iff_ne, ne_eq, beq_eq_false_iff_ne, bne_eq_false_iff_eq, gt_iff_lt, ge_iff_le, Int.not_lt, Int.not_le] at hc41
            have hc46 : c ≠ 46 := by intro h; rw [h] at hc41; exact hc41 rfl
            rw [if_neg hc46] at hE
            refine c_seq (fun K28 hK28 => ?_)
            refine c_reg ?_ -- region 18 text.go:132
            refine wl (ro_cmp rfl rfl rfl) ?_
            refine wl (ro_assign rfl) ?_
            refine wl_nil (x_then (hK28 _ _ ?_))
            clear hK28 K28
            refine wc_cond rfl (fun hc81 => ?_) (fun hc81 => ?_)
            · try simp only [decide_eq_true_eq, decide_eq_false_iff_not, Bool.not_eq_true', Bool.not_eq_false', Bool.not_eq_eq_eq_not, Bool.not_true, Bool.not_false, beq_iff_eq, bne_iff_ne, ne_eq, beq_eq_false_iff_ne, bne_eq_false_iff_eq, gt_iff_lt, ge_iff_le, Int.not_lt, Int.not_le] at hc81
              have hcp : c = 112 := UInt8.toNat_inj.1 (show c.toNat = 112 by omega)
              clear hkl hkA hk k hE
              subst hcp
              have hsr : s = d ++ 112 :: r' := by have := dgs_aft s; rw [hd, hr, hrc] at this; exact this.symm
              refine c_seq (fun K29 hK29 => ?_)
              refine c_reg ?_ -- region 19 text.go:133
              refine wl (ro_move rfl) ?_
              refine wl (ro_arith (k := .i64) (a := (d.length : Int)) (r := ((d.length + 1 : Nat) : Int)) rfl rfl (by show some ((d.length : Int) + 1) = _; congr 1) (Go.IntWalk.i64_in _ (by omega))) ?_
              refine wl (ro_assign rfl) ?_
              refine wl_nil (x_then (hK29 _ _ ?_))
              clear hK29 K29
              refine forget [(0, _), (4, _), (6, _)] ⟨rfl, rfl, rfl, trivial⟩ (fun e => ?_)
              refine c_mid (fun a' w' => w' = w ∧ ∃ (dn : Bool), (dn = true → s[d.length + 1]? = some 45) ∧ (dn = false → s[d.length + 1]? ≠ some 45) ∧ ∃ e, a' = Fr 133 (upds e [(0, S s), (4, u64c (dvl 0 d)), (6, i64c (d.length + 1)), (11, .bool dn)]) []) ?_ ?_
              · skip
                refine c_reg ?_ -- region 20 text.go:134
                refine wl (ro_move rfl) ?_
                refine wl (ro_move rfl) ?_
                refine wl (ro_lenS rfl st_9) ?_
                refine wl (ro_cmp (k := .i64) (a := ((d.length + 1 : Nat) : Int)) (b := (s.length : Int)) rfl rfl rfl) ?_
                refine wl_fork rfl (fun hg89 => ?_) (fun hg89 => ?_)
                · try simp only [decide_eq_true_eq, decide_eq_false_iff_not, Bool.not_eq_true', Bool.not_eq_false', Bool.not_eq_eq_eq_not, Bool.not_true, Bool.not_false, beq_iff_eq, bne_iff_ne, ne_eq, beq_eq_false_iff_ne, bne_eq_false_iff_eq, gt_iff_lt, ge_iff_le, Int.not_lt, Int.not_le] at hg89
                  refine wlg_yes rfl (ro_move rfl) ?_
                  refine wlg_yes rfl (ro_move rfl) ?_
                  refine wlg_yes rfl (ro_indexS rfl rfl st_9 rfl (List.getElem?_eq_getElem (show d.length + 1 < s.length by omega))) ?_
                  refine wlg_yes rfl (ro_cmp rfl rfl rfl) ?_
                  refine wl (ro_pick rfl rfl rfl) ?_
                  refine wl (ro_assign rfl) ?_
                  refine wl_nil (x_then ?_)
                  refine ⟨rfl, _, ?_, ?_, kp _ ⟨rfl, rfl, rfl, rfl, trivial⟩⟩
                  · intro h
                    rw [List.getElem?_eq_getElem (show d.length + 1 < s.length by omega)]
                    congr 1
                    exact UInt8.toNat_inj.1 (show s[d.length + 1].toNat = 45 by simp at h; omega)
                  · intro h hh
                    rw [List.getElem?_eq_getElem (show d.length + 1 < s.length by omega)] at hh
                    have := congrArg UInt8.toNat (Option.some.inj hh)
                    change s[d.length + 1].toNat = 45 at this
                    simp at h
                    omega
                · try simp only [decide_eq_true_eq, decide_eq_false_iff_not, Bool.not_eq_true', Bool.not_eq_false', Bool.not_eq_eq_eq_not, Bool.not_true, Bool.not_false, beq_iff_eq, bne_iff_ne, ne_eq, beq_eq_false_iff_ne, bne_eq_false_iff_eq, gt_iff_lt, ge_iff_le, Int.not_lt, Int.not_le] at hg89
                  refine wlg_no rfl ?_
                  refine wlg_no rfl ?_
                  refine wlg_no rfl ?_
                  refine wlg_no rfl ?_
                  refine wl (ro_pick rfl rfl rfl) ?_
                  refine wl (ro_assign rfl) ?_
                  refine wl_nil (x_then ?_)
                  refine ⟨rfl, false, ?_, ?_, kp _ ⟨rfl, rfl, rfl, rfl, trivial⟩⟩
                  · intro h; cases h
                  · intro _; rw [List.getElem?_eq_none (by omega)]; simp
              rintro a' w' ⟨hw, dn, hdn1, hdn2, e, rfl⟩
              rw [hw]
              clear hw w'
              refine c_mid (fun a' w' => w' = w ∧ ∃ (j : Nat) (q : List UInt8), s.drop j = q ∧ j ≤ s.length ∧ magN s = (if dgs q = [] ∨ 4 < (dgs q).length ∨ aft q ≠ [] ∨ 9007199254740992 < dvl 0 d then none else some (double.nearest false (dvl 0 d) (if dn then -(dvl 0 (dgs q) : Int) else dvl 0 (dgs q)))) ∧ ∃ e, a' = Fr 133 (upds e [(0, S s), (4, u64c (dvl 0 d)), (6, i64c j), (11, .bool dn)]) []) ?_ ?_
              · skip
                refine c_seq (fun K30 hK30 => ?_)
                refine c_reg ?_ -- region 21 text.go:135
                refine wl (ro_move rfl) ?_
                refine wl_nil (x_then (hK30 _ _ ?_))
                clear hK30 K30
                refine wc_cond rfl (fun hc95 => ?_) (fun hc95 => ?_)
                · try simp only [decide_eq_true_eq, decide_eq_false_iff_not, Bool.not_eq_true', Bool.not_eq_false', Bool.not_eq_eq_eq_not, Bool.not_true, Bool.not_false, beq_iff_eq, bne_iff_ne, ne_eq, beq_eq_false_iff_ne, bne_eq_false_iff_eq, gt_iff_lt, ge_iff_le, Int.not_lt, Int.not_le] at hc95
                  refine c_reg ?_ -- region 22 text.go:136
                  refine wl (ro_move rfl) ?_
                  refine wl (ro_arith (k := .i64) (a := ((d.length + 1 : Nat) : Int)) (r := ((d.length + 1 + 1 : Nat) : Int)) rfl rfl (by show some (((d.length + 1 : Nat) : Int) + 1) = _; congr 1) (Go.IntWalk.i64_in _ (by omega))) ?_
                  refine wl (ro_assign rfl) ?_
                  refine wl_nil (x_then ?_)
                  have h45 := hdn1 hc95
                  have hi1 : d.length + 1 < s.length := (List.getElem?_eq_some_iff.1 h45).1
                  refine ⟨rfl, d.length + 1 + 1, _, rfl, by omega, mag_p (dn := dn) hc16 hdA hd0 hd16 ?_ (fun h ↦ by rw [hc95] at h; cases h), kp _ ⟨rfl, rfl, rfl, rfl, trivial⟩⟩
                  rw [hc95, if_pos rfl]
                  have h2 := drop_get h45
                  rw [hdr1] at h2
                  exact hsr.trans (by rw [h2])
                · try simp only [decide_eq_true_eq, decide_eq_false_iff_not, Bool.not_eq_true', Bool.not_eq_false', Bool.not_eq_eq_eq_not, Bool.not_true, Bool.not_false, beq_iff_eq, bne_iff_ne, ne_eq, beq_eq_false_iff_ne, bne_eq_false_iff_eq, gt_iff_lt, ge_iff_le, Int.not_lt, Int.not_le] at hc95
                  refine c_skip (x_then ?_)
                  refine ⟨rfl, d.length + 1, _, rfl, by omega, mag_p (dn := dn) hc16 hdA hd0 hd16 ?_ (fun _ c r2 h ↦ ?_), kp _ ⟨rfl, rfl, rfl, rfl, trivial⟩⟩
                  · rw [hc95, hdr1]
                    exact hsr
                  · intro h45
                    apply hdn2 hc95
                    have := congrArg List.head? h
                    rw [List.head?_drop, h45] at this
                    exact this
              rintro a' w' ⟨hw, j, q, hjq, hj, hE, e, rfl⟩
              rw [hw]
              clear hw w'
              obtain ⟨k, hk⟩ : ∃ k, dgs q = k := ⟨_, rfl⟩
              have hkA : AllD k := by rw [← hk]; exact dgs_all q
              have hkl : k.length + (aft q).length = q.length := by rw [← hk]; exact len_aft
              have hql : q.length = s.length - j := by rw [← hjq, List.length_drop]
              rw [hk] at hE
              refine c_seq (fun K31 hK31 => ?_)
              refine c_reg ?_ -- region 23 text.go:138
              refine wl (ro_move rfl) ?_
              refine wl (ro_move rfl) ?_
              refine wl_call rfl en_216 (run216 (i := j) (m := 0) (by omega) (by omega) (by decide)) ?_
              rintro _ u0 ⟨rfl, hw0⟩
              rw [hw0]
              clear hw0 u0
              rw [hjq, hk]
              refine wl (ro_move rfl) ?_
              refine wl (ro_extract rfl rfl) ?_
              refine wl (ro_extract rfl rfl) ?_
              refine wl (ro_extract rfl rfl) ?_
              refine wl (ro_assign rfl) ?_
              refine wl (ro_assign rfl) ?_
              refine wl (ro_assign rfl) ?_
              refine wl_nil (x_then (hK31 _ _ ?_))
              clear hK31 K31
              refine c_seq (fun K32 hK32 => ?_)
              refine c_seq (fun K33 hK33 => ?_)
              refine c_reg ?_ -- region 24 text.go:139
              refine wl (ro_move rfl) ?_
              refine wl (ro_cmp (k := .i64) (a := (k.length : Int)) rfl rfl rfl) ?_
              refine wl_fork rfl (fun hg107 => ?_) (fun hg107 => ?_)
              · try simp only [decide_eq_true_eq, decide_eq_false_iff_not, Bool.not_eq_true', Bool.not_eq_false', Bool.not_eq_eq_eq_not, Bool.not_true, Bool.not_false, beq_iff_eq, bne_iff_ne, ne_eq, beq_eq_false_iff_ne, bne_eq_false_iff_eq, gt_iff_lt, ge_iff_le, Int.not_lt, Int.not_le] at hg107
                rw [if_pos (.inl (List.eq_nil_of_length_eq_zero (by omega)))] at hE
                refine wlg_no rfl ?_
                refine wlg_no rfl ?_
                refine wl (ro_pick rfl rfl rfl) ?_
                refine wl (ro_move rfl) ?_
                refine wlg_no rfl ?_
                refine wlg_no rfl ?_
                refine wlg_no rfl ?_
                refine wlg_no rfl ?_
                refine wl (ro_pick rfl rfl rfl) ?_
                refine wl (ro_move rfl) ?_
                refine wlg_no rfl ?_
                refine wlg_no rfl ?_
                refine wl (ro_pick rfl rfl rfl) ?_
                refine wl_nil (x_then (hK33 _ _ ?_))
                clear hK33 K33
                refine wc_condT rfl ?_
                refine c_seq (fun K34 hK34 => ?_)
                refine c_reg ?_ -- region 25 text.go:140
                refine wl (ro_assign rfl) ?_
                refine wl (ro_assign rfl) ?_
                refine wl_nil (x_then (hK34 _ _ ?_))
                clear hK34 K34
                refine c_ret (x_thenR (x_blkR (x_thenR ?_)))
                refine bp_ret Tryz.results174 rfl ?_
                exact ⟨.no hE, hF⟩
              · try simp only [decide_eq_true_eq, decide_eq_false_iff_not, Bool.not_eq_true', Bool.not_eq_false', Bool.not_eq_eq_eq_not, Bool.not_true, Bool.not_false, beq_iff_eq, bne_iff_ne, ne_eq, beq_eq_false_iff_ne, bne_eq_false_iff_eq, gt_iff_lt, ge_iff_le, Int.not_lt, Int.not_le] at hg107
                refine wlg_yes rfl (ro_move rfl) ?_
                refine wlg_yes rfl (ro_cmp (k := .i64) (a := (k.length : Int)) rfl rfl rfl) ?_
                refine wl (ro_pick rfl rfl rfl) ?_
                refine wl_fork rfl (fun hg111 => ?_) (fun hg111 => ?_)
                · try simp only [decide_eq_true_eq, decide_eq_false_iff_not, Bool.not_eq_true', Bool.not_eq_false', Bool.not_eq_eq_eq_not, Bool.not_true, Bool.not_false, beq_iff_eq, bne_iff_ne, ne_eq, beq_eq_false_iff_ne, bne_eq_false_iff_eq, gt_iff_lt, ge_iff_le, Int.not_lt, Int.not_le] at hg111
                  rw [if_pos (.inr (.inl (by omega)))] at hE
                  refine wlg_no rfl ?_
                  refine wlg_no rfl ?_
                  refine wlg_no rfl ?_
                  refine wlg_no rfl ?_
                  refine wl (ro_pick rfl rfl rfl) ?_
                  refine wl (ro_move rfl) ?_
                  refine wlg_no rfl ?_
                  refine wlg_no rfl ?_
                  refine wl (ro_pick rfl rfl rfl) ?_
                  refine wl_nil (x_then (hK33 _ _ ?_))
                  clear hK33 K33
                  refine wc_condT rfl ?_
                  refine c_seq (fun K35 hK35 => ?_)
                  refine c_reg ?_ -- region 25 text.go:140
                  refine wl (ro_assign rfl) ?_
                  refine wl (ro_assign rfl) ?_
                  refine wl_nil (x_then (hK35 _ _ ?_))
                  clear hK35 K35
                  refine c_ret (x_thenR (x_blkR (x_thenR ?_)))
                  refine bp_ret Tryz.results174 rfl ?_
                  exact ⟨.no hE, hF⟩
                · try simp only [decide_eq_true_eq, decide_eq_false_iff_not, Bool.not_eq_true', Bool.not_eq_false', Bool.not_eq_eq_eq_not, Bool.not_true, Bool.not_false, beq_iff_eq, bne_iff_ne, ne_eq, beq_eq_false_iff_ne, bne_eq_false_iff_eq, gt_iff_lt, ge_iff_le, Int.not_lt, Int.not_le] at hg111
                  refine wlg_yes rfl (ro_move rfl) ?_
                  refine wlg_yes rfl (ro_move rfl) ?_
                  refine wlg_yes rfl (ro_lenS rfl st_9) ?_
                  refine wlg_yes rfl (ro_cmp (k := .i64) (a := ((j + k.length : Nat) : Int)) (b := (s.length : Int)) rfl rfl rfl) ?_
                  refine wl (ro_pick rfl rfl rfl) ?_
                  refine wl_fork rfl (fun hg117 => ?_) (fun hg117 => ?_)
                  · try simp only [decide_eq_true_eq, decide_eq_false_iff_not, Bool.not_eq_true', Bool.not_eq_false', Bool.not_eq_eq_eq_not, Bool.not_true, Bool.not_false, beq_iff_eq, bne_iff_ne, ne_eq, beq_eq_false_iff_ne, bne_eq_false_iff_eq, gt_iff_lt, ge_iff_le, Int.not_lt, Int.not_le] at hg117
                    rw [if_pos (.inr (.inr (.inl (fun h => by rw [h] at hkl; simp at hkl; omega))))] at hE
                    refine wlg_no rfl ?_
                    refine wlg_no rfl ?_
                    refine wl (ro_pick rfl rfl rfl) ?_
                    refine wl_nil (x_then (hK33 _ _ ?_))
                    clear hK33 K33
                    refine wc_condT rfl ?_
                    refine c_seq (fun K36 hK36 => ?_)
                    refine c_reg ?_ -- region 25 text.go:140
                    refine wl (ro_assign rfl) ?_
                    refine wl (ro_assign rfl) ?_
                    refine wl_nil (x_then (hK36 _ _ ?_))
                    clear hK36 K36
                    refine c_ret (x_thenR (x_blkR (x_thenR ?_)))
                    refine bp_ret Tryz.results174 rfl ?_
                    exact ⟨.no hE, hF⟩
                  · try simp only [decide_eq_true_eq, decide_eq_false_iff_not, Bool.not_eq_true', Bool.not_eq_false', Bool.not_eq_eq_eq_not, Bool.not_true, Bool.not_false, beq_iff_eq, bne_iff_ne, ne_eq, beq_eq_false_iff_ne, bne_eq_false_iff_eq, gt_iff_lt, ge_iff_le, Int.not_lt, Int.not_le] at hg117
                    refine wlg_yes rfl (ro_move rfl) ?_
                    refine wlg_yes rfl (ro_cmpU (a := dvl 0 d) (b := 9007199254740992) rfl rfl rfl) ?_
                    refine wl (ro_pick rfl rfl rfl) ?_
                    refine wl_nil (x_then (hK33 _ _ ?_))
                    clear hK33 K33
                    refine wc_cond rfl (fun hc120 => ?_) (fun hc120 => ?_)
                    · try simp only [decide_eq_true_eq, decide_eq_false_iff_not, Bool.not_eq_true', Bool.not_eq_false', Bool.not_eq_eq_eq_not, Bool.not_true, Bool.not_false, beq_iff_eq, bne_iff_ne, ne_eq, beq_eq_false_iff_ne, bne_eq_false_iff_eq, gt_iff_lt, ge_iff_le, Int.not_lt, Int.not_le] at hc120
                      rw [if_pos (.inr (.inr (.inr hc120)))] at hE
                      refine c_seq (fun K37 hK37 => ?_)
                      refine c_reg ?_ -- region 25 text.go:140
                      refine wl (ro_assign rfl) ?_
                      refine wl (ro_assign rfl) ?_
                      refine wl_nil (x_then (hK37 _ _ ?_))
                      clear hK37 K37
                      refine c_ret (x_thenR (x_blkR (x_thenR ?_)))
                      refine bp_ret Tryz.results174 rfl ?_
                      exact ⟨.no hE, hF⟩
                    · try simp only [decide_eq_true_eq, decide_eq_false_iff_not, Bool.not_eq_true', Bool.not_eq_false', Bool.not_eq_eq_eq_not, Bool.not_true, Bool.not_false, beq_iff_eq, bne_iff_ne, ne_eq, beq_eq_false_iff_ne, bne_eq_false_iff_eq, gt_iff_lt, ge_iff_le, Int.not_lt, Int.not_le] at hc120
                      have hsm : dvl 0 d ≤ 9007199254740992 := by change ¬ 9007199254740992 < dvl 0 d at hc120; omega
                      have hk0 : k ≠ [] := by intro h; subst h; exact hg107 rfl
                      have ha0 : aft q = [] := List.eq_nil_of_length_eq_zero (by omega)
                      rw [if_neg (by rintro (h | h | h | h); exact hk0 h; omega; exact h ha0; omega)] at hE
                      have hkv : dvl 0 k < 10000 := Nat.lt_of_lt_of_le hkA.lt (ge_pow (k := 4) (by omega))
                      rw [Nat.mod_eq_of_lt (show dvl 0 k < 18446744073709551616 by omega)]
                      refine c_skip (x_then (hK32 _ _ ?_))
                      clear hK32 K32
                      refine c_seq (fun K38 hK38 => ?_)
                      refine c_seq (fun K39 hK39 => ?_)
                      refine c_reg ?_ -- region 26 text.go:142
                      refine wl (ro_move rfl) ?_
                      refine wl_nil (x_then (hK39 _ _ ?_))
                      clear hK39 K39
                      refine wc_cond rfl (fun hc121 => ?_) (fun hc121 => ?_)
                      · try simp only [decide_eq_true_eq, decide_eq_false_iff_not, Bool.not_eq_true', Bool.not_eq_false', Bool.not_eq_eq_eq_not, Bool.not_true, Bool.not_false, beq_iff_eq, bne_iff_ne, ne_eq, beq_eq_false_iff_ne, bne_eq_false_iff_eq, gt_iff_lt, ge_iff_le, Int.not_lt, Int.not_le] at hc121
                        refine c_seq (fun K40 hK40 => ?_)
                        refine c_reg ?_ -- region 27 text.go:143
                        refine wl (ro_move rfl) ?_
                        refine wl ((show RO _ _ _ _ _ (fl (double.nearest false (dvl 0 d) 0)) from ro_i2f (m := (dvl 0 d : Int)) rfl sc_117 (by kernel_rfl))) ?_
                        refine wl (ro_move rfl) ?_
                        refine wl (ro_conv (a := (dvl 0 k : Int)) rfl sc_117 in_3 (Go.IntWalk.i64_in _ (by omega))) ?_
                        refine wl (ro_neg rfl (by omega)) ?_
                        refine wl_call rfl en_217 (Ldexp217 (m := dvl 0 d) (ex := -(dvl 0 k : Int)) hsm (by omega)) ?_
                        rintro _ u1 ⟨rfl, F1⟩
                        refine wl (ro_assign rfl) ?_
                        refine wl (ro_assign rfl) ?_
                        refine wl_nil (x_then (hK40 _ _ ?_))
                        clear hK40 K40
                        refine c_ret (x_thenR (x_blkR (x_thenR ?_)))
                        refine bp_ret Tryz.results174 rfl ?_
                        exact ⟨.inl ⟨_, by rw [hE, hc121]; rfl, nearest_pos _ _, rfl⟩, F1⟩
                      · try simp only [decide_eq_true_eq, decide_eq_false_iff_not, Bool.not_eq_true', Bool.not_eq_false', Bool.not_eq_eq_eq_not, Bool.not_true, Bool.not_false, beq_iff_eq, bne_iff_ne, ne_eq, beq_eq_false_iff_ne, bne_eq_false_iff_eq, gt_iff_lt, ge_iff_le, Int.not_lt, Int.not_le] at hc121
                        refine c_skip (x_then (hK38 _ _ ?_))
                        clear hK38 K38
                        refine forget [(4, _), (12, _)] ⟨rfl, rfl, trivial⟩ (fun e => ?_)
                        refine c_seq (fun K41 hK41 => ?_)
                        refine c_reg ?_ -- region 28 text.go:145
                        refine wl (ro_move rfl) ?_
                        refine wl ((show RO _ _ _ _ _ (fl (double.nearest false (dvl 0 d) 0)) from ro_i2f (m := (dvl 0 d : Int)) rfl sc_117 (by kernel_rfl))) ?_
                        refine wl (ro_move rfl) ?_
                        refine wl (ro_conv (a := (dvl 0 k : Int)) rfl sc_117 in_3 (Go.IntWalk.i64_in _ (by omega))) ?_
                        refine wl_call rfl en_217 (Ldexp217 (m := dvl 0 d) (ex := (dvl 0 k : Int)) hsm (by omega)) ?_
                        rintro _ u1 ⟨rfl, F1⟩
                        refine wl (ro_assign rfl) ?_
                        refine wl (ro_assign rfl) ?_
                        refine wl_nil (x_then (hK41 _ _ ?_))
                        clear hK41 K41
                        refine c_ret (x_blkR (x_thenR ?_))
                        refine bp_ret Tryz.results174 rfl ?_
                        exact ⟨.inl ⟨_, by rw [hE, hc121]; rfl, nearest_pos _ _, rfl⟩, F1⟩
            · try simp only [decide_eq_true_eq, decide_eq_false_iff_not, Bool.not_eq_true', Bool.not_eq_false', Bool.not_eq_eq_eq_not, Bool.not_true, Bool.not_false, beq_iff_eq, bne_iff_ne, ne_eq, beq_eq_false_iff_ne, bne_eq_false_iff_eq, gt_iff_lt, ge_iff_le, Int.not_lt, Int.not_le] at hc81
              rw [if_neg (by intro h; rw [h] at hc81; exact hc81 rfl)] at hE
              refine c_skip (x_blk (x_then (hK13 _ _ ?_)))
              clear hK13 K13
              refine forget [] trivial (fun e => ?_)
              refine c_seq (fun K42 hK42 => ?_)
              refine c_reg ?_ -- region 29 text.go:147
              refine wl (ro_assign rfl) ?_
              refine wl (ro_assign rfl) ?_
              refine wl_nil (x_then (hK42 _ _ ?_))
              clear hK42 K42
              refine c_ret ?_
              refine bp_ret Tryz.results174 rfl ?_
              exact ⟨.no hE, hF⟩

theorem Parse132 {w : World} {p : Value} {s : List UInt8} (hs0 : s.length < 4611686018427387904) : Ret Tryz.prog 132 [p, S s] w (fun v w' => PRes (parN s) v ∧ Fram none' w w') := by
  have hF : Fram none' w w := Fram.refl _ _
  refine ret_of Tryz.func132 rfl Tryz.ntmps132 rfl ?_
  refine c_seq (fun K1 hK1 => ?_)
  refine c_reg ?_ -- region 0 text.go:88
  refine wl (ro_assign rfl) ?_
  refine wl (ro_assign rfl) ?_
  refine wl_nil (x_then (hK1 _ _ ?_))
  clear hK1 K1
  refine c_seq (fun K2 hK2 => ?_)
  refine c_seq (fun K3 hK3 => ?_)
  refine c_reg ?_ -- region 1 text.go:89
  refine wl (ro_move rfl) ?_
  refine wl (ro_lenS rfl st_9) ?_
  refine wl (ro_cmp rfl rfl rfl) ?_
  refine wl_nil (x_then (hK3 _ _ ?_))
  clear hK3 K3
  refine wc_cond rfl (fun hc11 => ?_) (fun hc11 => ?_)
  · try simp only [decide_eq_true_eq, decide_eq_false_iff_not, Bool.not_eq_true', Bool.not_eq_false', Bool.not_eq_eq_eq_not, Bool.not_true, Bool.not_false, beq_iff_eq, bne_iff_ne, ne_eq, beq_eq_false_iff_ne, bne_eq_false_iff_eq, gt_iff_lt, ge_iff_le, Int.not_lt, Int.not_le] at hc11
    refine c_seq (fun K4 hK4 => ?_)
    refine c_reg ?_ -- region 2 text.go:90
    refine wl (ro_assign rfl) ?_
    refine wl (ro_assign rfl) ?_
    refine wl_nil (x_then (hK4 _ _ ?_))
    clear hK4 K4
    refine c_ret (x_thenR ?_)
    refine bp_ret Tryz.results132 rfl ?_
    exact ⟨.inr ⟨by unfold parN; rw [if_pos (by omega)], 1, by decide, rfl⟩, hF⟩
  · try simp only [decide_eq_true_eq, decide_eq_false_iff_not, Bool.not_eq_true', Bool.not_eq_false', Bool.not_eq_eq_eq_not, Bool.not_true, Bool.not_false, beq_iff_eq, bne_iff_ne, ne_eq, beq_eq_false_iff_ne, bne_eq_false_iff_eq, gt_iff_lt, ge_iff_le, Int.not_lt, Int.not_le] at hc11
    have hs24 : s.length ≤ 24 := by omega
    refine c_skip (x_then (hK2 _ _ ?_))
    clear hK2 K2
    refine c_seq (fun K5 hK5 => ?_)
    refine c_seq (fun K6 hK6 => ?_)
    refine c_reg ?_ -- region 3 text.go:92
    refine wl (ro_move rfl) ?_
    refine wl (ro_eqS rfl rfl rfl) ?_
    refine wl_nil (x_then (hK6 _ _ ?_))
    clear hK6 K6
    refine wc_cond rfl (fun hc13 => ?_) (fun hc13 => ?_)
    · try simp only [decide_eq_true_eq, decide_eq_false_iff_not, Bool.not_eq_true', Bool.not_eq_false', Bool.not_eq_eq_eq_not, Bool.not_true, Bool.not_false, beq_iff_eq, bne_iff_ne, ne_eq, beq_eq_false_iff_ne, bne_eq_false_iff_eq, gt_iff_lt, ge_iff_le, Int.not_lt, Int.not_le] at hc13
      refine c_seq (fun K7 hK7 => ?_)
      refine c_reg ?_ -- region 4 text.go:93
      refine wl (ro_assign rfl) ?_
      refine wl (ro_assign rfl) ?_
      refine wl_nil (x_then (hK7 _ _ ?_))
      clear hK7 K7
      refine c_ret (x_thenR ?_)
      refine bp_ret Tryz.results132 rfl ?_
      exact ⟨.inl ⟨nanB, by unfold parN; rw [if_neg (by omega), if_pos hc13], rfl⟩, hF⟩
    · try simp only [decide_eq_true_eq, decide_eq_false_iff_not, Bool.not_eq_true', Bool.not_eq_false', Bool.not_eq_eq_eq_not, Bool.not_true, Bool.not_false, beq_iff_eq, bne_iff_ne, ne_eq, beq_eq_false_iff_ne, bne_eq_false_iff_eq, gt_iff_lt, ge_iff_le, Int.not_lt, Int.not_le] at hc13
      refine c_skip (x_then (hK5 _ _ ?_))
      clear hK5 K5
      refine forget [(1, _)] ⟨rfl, trivial⟩ (fun e => ?_)
      refine c_mid (fun a' w' => w' = w ∧ ∃ (b : Bool), (b = true → s[0]? = some 45) ∧ (b = false → s[0]? ≠ some 45) ∧ ∃ e, a' = Fr 37 (upds e [(1, S s), (6, .bool b)]) []) ?_ ?_
      · skip
        refine c_reg ?_ -- region 5 text.go:95
        refine wl (ro_move rfl) ?_
        refine wl (ro_lenS rfl st_9) ?_
        refine wl (ro_cmp rfl rfl rfl) ?_
        refine wl_fork rfl (fun hg17 => ?_) (fun hg17 => ?_)
        · try simp only [decide_eq_true_eq, decide_eq_false_iff_not, Bool.not_eq_true', Bool.not_eq_false', Bool.not_eq_eq_eq_not, Bool.not_true, Bool.not_false, beq_iff_eq, bne_iff_ne, ne_eq, beq_eq_false_iff_ne, bne_eq_false_iff_eq, gt_iff_lt, ge_iff_le, Int.not_lt, Int.not_le] at hg17
          refine wlg_yes rfl (ro_move rfl) ?_
          refine wlg_yes rfl (ro_indexS rfl rfl st_9 rfl (List.getElem?_eq_getElem (show 0 < s.length by omega))) ?_
          refine wlg_yes rfl (ro_cmp rfl rfl rfl) ?_
          refine wl (ro_pick rfl rfl rfl) ?_
          refine wl (ro_assign rfl) ?_
          refine wl_nil (x_then ?_)
          refine ⟨rfl, _, ?_, ?_, kp _ ⟨rfl, rfl, trivial⟩⟩
          · intro h
            rw [List.getElem?_eq_getElem (show 0 < s.length by omega)]
            congr 1
            exact UInt8.toNat_inj.1 (show s[0].toNat = 45 by simp at h; omega)
          · intro h hh
            rw [List.getElem?_eq_getElem (show 0 < s.length by omega)] at hh
            have := congrArg UInt8.toNat (Option.some.inj hh)
            change s[0].toNat = 45 at this
            simp at h
            omega
        · try simp only [decide_eq_true_eq, decide_eq_false_iff_not, Bool.not_eq_true', Bool.not_eq_false', Bool.not_eq_eq_eq_not, Bool.not_true, Bool.not_false, beq_iff_eq, bne_iff_ne, ne_eq, beq_eq_false_iff_ne, bne_eq_false_iff_eq, gt_iff_lt, ge_iff_le, Int.not_lt, Int.not_le] at hg17
          refine wlg_no rfl ?_
          refine wlg_no rfl ?_
          refine wlg_no rfl ?_
          refine wl (ro_pick rfl rfl rfl) ?_
          refine wl (ro_assign rfl) ?_
          refine wl_nil (x_then ?_)
          refine ⟨rfl, false, ?_, ?_, kp _ ⟨rfl, rfl, trivial⟩⟩
          · intro h; cases h
          · intro _; rw [List.getElem?_eq_none (by omega)]; simp
      rintro a' w' ⟨hw, b, hb1, hb2, e, rfl⟩
      rw [hw]
      clear hw w'
      refine c_mid (fun a' w' => w' = w ∧ ∃ (i : Nat), i ≤ 1 ∧ i ≤ s.length ∧ parN s = (magN (s.drop i)).map (sgB b + ·) ∧ ∃ e, a' = Fr 37 (upds e [(1, S (s.drop i)), (6, .bool b)]) []) ?_ ?_
      · skip
        refine c_seq (fun K8 hK8 => ?_)
        refine c_reg ?_ -- region 6 text.go:96
        refine wl (ro_move rfl) ?_
        refine wl_nil (x_then (hK8 _ _ ?_))
        clear hK8 K8
        refine wc_cond rfl (fun hc22 => ?_) (fun hc22 => ?_)
        · try simp only [decide_eq_true_eq, decide_eq_false_iff_not, Bool.not_eq_true', Bool.not_eq_false', Bool.not_eq_eq_eq_not, Bool.not_true, Bool.not_false, beq_iff_eq, bne_iff_ne, ne_eq, beq_eq_false_iff_ne, bne_eq_false_iff_eq, gt_iff_lt, ge_iff_le, Int.not_lt, Int.not_le] at hc22
          refine c_reg ?_ -- region 7 text.go:97
          refine wl (ro_move rfl) ?_
          refine wl (ro_sliceSL (l := 1) rfl rfl st_9 rfl (List.getElem?_eq_some_iff.1 (hb1 hc22)).1) ?_
          refine wl (ro_assign rfl) ?_
          refine wl_nil (x_then ?_)
          have h45 := hb1 hc22
          exact ⟨rfl, 1, by omega, (List.getElem?_eq_some_iff.1 h45).1, parN_sg hs24 hc13 (fun _ ↦ ⟨rfl, h45⟩) (fun h ↦ by rw [hc22] at h; cases h), kp _ ⟨rfl, rfl, trivial⟩⟩
        · try simp only [decide_eq_true_eq, decide_eq_false_iff_not, Bool.not_eq_true', Bool.not_eq_false', Bool.not_eq_eq_eq_not, Bool.not_true, Bool.not_false, beq_iff_eq, bne_iff_ne, ne_eq, beq_eq_false_iff_ne, bne_eq_false_iff_eq, gt_iff_lt, ge_iff_le, Int.not_lt, Int.not_le] at hc22
          refine c_skip (x_then ?_)
          exact ⟨rfl, 0, by omega, by omega, parN_sg hs24 hc13 (fun h ↦ by rw [hc22] at h; cases h) (fun _ ↦ ⟨rfl, hb2 hc22⟩), kp _ ⟨rfl, rfl, trivial⟩⟩
      rintro a' w' ⟨hw, i, hi1, his, hpar, e, rfl⟩
      rw [hw]
      clear hw w'
      refine c_seq (fun K9 hK9 => ?_)
      refine c_reg ?_ -- region 8 text.go:99
      refine wl (ro_move rfl) ?_
      refine wl_call rfl en_174 (magnitude174 (by rw [List.length_drop]; omega)) ?_
      rintro _ u1 ⟨hM, F1⟩
      obtain ⟨x, ok, rfl, hx, hn⟩ := hM.form
      refine wl (ro_move rfl) ?_
      refine wl (ro_extract rfl rfl) ?_
      refine wl (ro_extract rfl rfl) ?_
      refine wl (ro_assign rfl) ?_
      refine wl (ro_assign rfl) ?_
      refine wl_nil (x_then (hK9 _ _ ?_))
      clear hK9 K9
      refine c_seq (fun K10 hK10 => ?_)
      refine c_seq (fun K11 hK11 => ?_)
      refine c_reg ?_ -- region 9 text.go:100
      refine wl (ro_move rfl) ?_
      refine wl (ro_not rfl) ?_
      refine wl_nil (x_then (hK11 _ _ ?_))
      clear hK11 K11
      refine wc_cond rfl (fun hc31 => ?_) (fun hc31 => ?_)
      · try simp only [decide_eq_true_eq, decide_eq_false_iff_not, Bool.not_eq_true', Bool.not_eq_false', Bool.not_eq_eq_eq_not, Bool.not_true, Bool.not_false, beq_iff_eq, bne_iff_ne, ne_eq, beq_eq_false_iff_ne, bne_eq_false_iff_eq, gt_iff_lt, ge_iff_le, Int.not_lt, Int.not_le] at hc31
        refine c_seq (fun K12 hK12 => ?_)
        refine c_reg ?_ -- region 10 text.go:101
        refine wl (ro_assign rfl) ?_
        refine wl (ro_assign rfl) ?_
        refine wl_nil (x_then (hK12 _ _ ?_))
        clear hK12 K12
        refine c_ret (x_thenR ?_)
        refine bp_ret Tryz.results132 rfl ?_
        exact ⟨.inr ⟨by rw [hpar, hn hc31]; rfl, 2, by decide, rfl⟩, F1⟩
      · try simp only [decide_eq_true_eq, decide_eq_false_iff_not, Bool.not_eq_true', Bool.not_eq_false', Bool.not_eq_eq_eq_not, Bool.not_true, Bool.not_false, beq_iff_eq, bne_iff_ne, ne_eq, beq_eq_false_iff_ne, bne_eq_false_iff_eq, gt_iff_lt, ge_iff_le, Int.not_lt, Int.not_le] at hc31
        obtain ⟨hx1, hx2⟩ := hx hc31
        rw [hx1] at hpar
        refine c_skip (x_then (hK10 _ _ ?_))
        clear hK10 K10
        refine c_seq (fun K13 hK13 => ?_)
        refine c_seq (fun K14 hK14 => ?_)
        refine c_reg ?_ -- region 11 text.go:103
        refine wl (ro_move rfl) ?_
        refine wl_nil (x_then (hK14 _ _ ?_))
        clear hK14 K14
        refine wc_cond rfl (fun hc32 => ?_) (fun hc32 => ?_)
        · try simp only [decide_eq_true_eq, decide_eq_false_iff_not, Bool.not_eq_true', Bool.not_eq_false', Bool.not_eq_eq_eq_not, Bool.not_true, Bool.not_false, beq_iff_eq, bne_iff_ne, ne_eq, beq_eq_false_iff_ne, bne_eq_false_iff_eq, gt_iff_lt, ge_iff_le, Int.not_lt, Int.not_le] at hc32
          refine c_reg ?_ -- region 12 text.go:104
          refine wl (ro_move rfl) ?_
          refine wl (ro_fneg (a := x) rfl (by unfold W64; omega)) ?_
          refine wl (ro_assign rfl) ?_
          refine wl_nil (x_then (hK13 _ _ ?_))
          clear hK13 K13
          refine forget [(7, _)] ⟨rfl, trivial⟩ (fun e => ?_)
          refine c_seq (fun K15 hK15 => ?_)
          refine c_reg ?_ -- region 13 text.go:106
          refine wl (ro_move rfl) ?_
          refine wl (ro_bitsF rfl) ?_
          refine wl (ro_assign rfl) ?_
          refine wl (ro_assign rfl) ?_
          refine wl_nil (x_then (hK15 _ _ ?_))
          clear hK15 K15
          refine c_ret ?_
          refine bp_ret Tryz.results132 rfl ?_
          refine ⟨.inl ⟨_, hpar, ?_⟩, F1⟩
          rw [hc32]
          unfold negW ngW
          rw [if_neg (by rw [decide_eq_true_eq]; omega), Nat.add_comm]
          rfl
        · try simp only [decide_eq_true_eq, decide_eq_false_iff_not, Bool.not_eq_true', Bool.not_eq_false', Bool.not_eq_eq_eq_not, Bool.not_true, Bool.not_false, beq_iff_eq, bne_iff_ne, ne_eq, beq_eq_false_iff_ne, bne_eq_false_iff_eq, gt_iff_lt, ge_iff_le, Int.not_lt, Int.not_le] at hc32
          refine c_skip (x_then (hK13 _ _ ?_))
          clear hK13 K13
          refine forget [(7, _)] ⟨rfl, trivial⟩ (fun e => ?_)
          refine c_seq (fun K16 hK16 => ?_)
          refine c_reg ?_ -- region 13 text.go:106
          refine wl (ro_move rfl) ?_
          refine wl (ro_bitsF rfl) ?_
          refine wl (ro_assign rfl) ?_
          refine wl (ro_assign rfl) ?_
          refine wl_nil (x_then (hK16 _ _ ?_))
          clear hK16 K16
          refine c_ret ?_
          refine bp_ret Tryz.results132 rfl ?_
          refine ⟨.inl ⟨_, hpar, ?_⟩, F1⟩
          rw [hc32]
          show _ = Value.tuple #[u64c (0 + x), icv 0]
          rw [Nat.zero_add]
end Go.Proofs.Qxb6500568aGreatDoor
