import Derived.Test.Qxb6500570aGreatJd
/- The model's printer: numbers, references, operators, levels. -/
namespace Go.Proofs.Qxb6500570aGreat
set_option linter.unusedVariables false
set_option linter.unusedSimpArgs false

theorem ro_sliceA {P : Program} {n : Nat} {e : Nat → Option Value} {w : World} {t len et k b o l : Nat} {q : IntKind} {lo : Int} {x y : Operand} (hx : evO n e x = some (.pointer (some ⟨b, o, none⟩))) (hy : evO n e y = some (.int q lo)) (ht : arrB P t len et k = true)
    (hl : lo = (l : Int)) (h1 : l ≤ len) : RO P n e w (.slice t x (some y) none none) (.slice (some (if len = l then ⟨b, o, none⟩ else ⟨b, o + l * k, none⟩)) (len - l) (len - l)) := by
  intro ds dst ty ps af g
  obtain ⟨t1, t2⟩ := arrB_spec ht
  subst hl
  simp [execOp, evO_eval hx, evO_eval hy, Instr.sliceAt, run_underlying t1, Instr.sureAddr, Instr.sliceBounds, Instr.sliceBound, asIntOf, h1, run_sizeOf t2, addr_add]
theorem ro_remN {P : Program} {n : Nat} {e : Nat → Option Value} {w : World} {t t' : TypeId} {x y : Operand} {a b : Nat} (hx : evO n e x = some (i64c a)) (hy : evO n e y = some (i64c b)) (hb : 0 < b) : RO P n e w (.binOp .rem t x y t') (i64c (a % b)) := by
  have h := ro_rem (P := P) (w := w) (t := t) (t' := t') hx hy (by omega)
  rw [Int.tmod_eq_emod_of_nonneg (by omega)] at h
  exact h
theorem ro_quoN {P : Program} {n : Nat} {e : Nat → Option Value} {w : World} {t t' : TypeId} {x y : Operand} {a b : Nat} (hx : evO n e x = some (i64c a)) (hy : evO n e y = some (i64c b)) (hb : 0 < b) (ha : a ≤ 1000000000) : RO P n e w (.binOp .quo t x y t') (i64c (a / b)) := by
  have hq : (a : Int).tdiv b = ((a / b : Nat) : Int) := by rw [Int.tdiv_eq_ediv_of_nonneg (by omega)]; exact (Int.natCast_ediv a b).symm
  have hle := Nat.div_le_self a b
  generalize a / b = q at hq hle ⊢
  have h := ro_quo (P := P) (w := w) (t := t) (t' := t') hx hy (by omega) (by rw [hq]; exact Go.IntWalk.i64_in _ (by omega))
  rw [hq] at h
  exact h
theorem drop_set_self {α : Type} (l : List α) (i : Nat) (v : α) (h : i < l.length) : (l.set i v).drop i = v :: l.drop (i + 1) := by
  rw [List.drop_eq_getElem_cons (by simpa using h), List.drop_set_of_lt (by omega)]
  simp

def ItI (n k f : Nat) (suf : List UInt8) : Prop := f + suf.length = 9 ∧ k < 10 ^ f ∧ (k = 0 → suf = dgT n) ∧ (0 < k → dgF f k suf = dgT n)
theorem ItI.step {n k f : Nat} {suf : List UInt8} (h : ItI n k f suf) (hk : 0 < k) : ∃ f', f = f' + 1 ∧ ItI n (k / 10) f' (UInt8.ofNat (48 + k % 10) :: suf) := by
  obtain ⟨h1, h2, h3, h4⟩ := h
  cases f with
  | zero => simp at h2; omega
  | succ f =>
    refine ⟨f, rfl, by simp only [List.length_cons]; omega, ?_, fun q => ?_, fun q => ?_⟩
    · rw [Nat.pow_succ] at h2; omega
    · have := h4 hk
      unfold dgF at this
      rw [if_pos q] at this
      exact this
    · have := h4 hk
      unfold dgF at this
      rw [if_neg (by omega)] at this
      exact this
theorem Itoa178 {w : World} {n : Nat} (hn : n ≤ 999999999) : Ret Tryz.prog 178 [i64c n] w (fun r w' => r = S (dgT n) ∧ Fram none' w w') := by
  have hF : Fram none' w w := Fram.refl _ _
  refine ret_of Tryz.func178 rfl Tryz.ntmps178 rfl ?_
  refine c_seq (fun K1 hK1 => ?_)
  refine c_reg ?_ -- region 0 const.go:292
  refine wl (ro_assign rfl) ?_
  refine wl_nil (x_then (hK1 _ _ ?_))
  clear hK1 K1
  refine c_seq (fun K2 hK2 => ?_)
  refine c_seq (fun K3 hK3 => ?_)
  refine c_reg ?_ -- region 1 const.go:293
  refine wl (ro_move rfl) ?_
  refine wl (ro_cmp (r := decide (n = 0)) rfl rfl (congrArg some (beqc n 0))) ?_
  refine wl_nil (x_then (hK3 _ _ ?_))
  clear hK3 K3
  refine wc_cond rfl (fun hc7 => ?_) (fun hc7 => ?_)
  · try simp only [decide_eq_true_eq, decide_eq_false_iff_not, Bool.not_eq_true', Bool.not_eq_false', Bool.not_eq_eq_eq_not, Bool.not_true, Bool.not_false, beq_iff_eq, bne_iff_ne, ne_eq, beq_eq_false_iff_ne, bne_eq_false_iff_eq, gt_iff_lt, ge_iff_le, Int.not_lt, Int.not_le] at hc7
    refine c_seq (fun K4 hK4 => ?_)
    refine c_reg ?_ -- region 2 const.go:294
    refine wl (ro_assign rfl) ?_
    refine wl_nil (x_then (hK4 _ _ ?_))
    clear hK4 K4
    refine c_ret (x_thenR ?_)
    refine bp_ret Tryz.results178 rfl ?_
    exact ⟨by rw [hc7]; rfl, hF⟩
  · try simp only [decide_eq_true_eq, decide_eq_false_iff_not, Bool.not_eq_true', Bool.not_eq_false', Bool.not_eq_eq_eq_not, Bool.not_true, Bool.not_false, beq_iff_eq, bne_iff_ne, ne_eq, beq_eq_false_iff_ne, bne_eq_false_iff_eq, gt_iff_lt, ge_iff_le, Int.not_lt, Int.not_le] at hc7
    refine c_skip (x_then (hK2 _ _ ?_))
    clear hK2 K2
    refine forget [(0, _)] ⟨rfl, trivial⟩ (fun e => ?_)
    refine c_seq (fun K5 hK5 => ?_)
    refine c_reg ?_ -- region 3 const.go:296
    refine wl (ro_move rfl) ?_
    refine wl (ro_cmp (r := false) rfl rfl (congrArg some (decide_eq_false (by omega)))) ?_
    refine wl (ro_assign rfl) ?_
    refine wl_nil (x_then (hK5 _ _ ?_))
    clear hK5 K5
    refine c_seq (fun K6 hK6 => ?_)
    refine c_seq (fun K7 hK7 => ?_)
    refine c_reg ?_ -- region 4 const.go:297
    refine wl (ro_move rfl) ?_
    refine wl_nil (x_then (hK7 _ _ ?_))
    clear hK7 K7
    refine wc_condF rfl ?_
    refine c_skip (x_then (hK6 _ _ ?_))
    clear hK6 K6
    refine forget [(0, _), (3, _)] ⟨rfl, rfl, trivial⟩ (fun e => ?_)
    refine c_seq (fun K8 hK8 => ?_)
    refine c_reg ?_ -- region 6 const.go:300
    refine wl_new (ze_221) (fun b4 w1 hbb4 hA F1 => ?_)
    have hbsb4 := Nat.le_trans hF.size hbb4
    replace hF := hF.thenDrew.thenN F1
    refine wl_nil (x_then (hK8 _ _ ?_))
    clear hK8 K8
    refine forget [(0, _), (3, _), (4, _)] ⟨rfl, rfl, rfl, trivial⟩ (fun e => ?_)
    refine c_seq (fun K9 hK9 => ?_)
    refine c_reg ?_ -- region 7 const.go:301
    refine wl (ro_assign rfl) ?_
    refine wl_nil (x_then (hK9 _ _ ?_))
    clear hK9 K9
    refine forget [(0, _), (3, _), (4, _), (5, _)] ⟨rfl, rfl, rfl, rfl, trivial⟩ (fun e => ?_)
    refine c_seq (fun K10 hK10 => ?_)
    refine c_block ?_
    -- loop@r8: live slots [0, 3, 4, 5]
    refine c_loopG (fun m a' w' => ∃ k f suf l, m = k ∧ ItI n k f suf ∧ l.length = 24 ∧ l.drop (24 - suf.length) = suf.map u8c ∧ Blk w'.heap b4 l 221 ∧ Fram none' w w' ∧ ∃ e, a' = Fr 33 (upds e [(0, i64c k), (3, .bool false), (4, ptr b4), (5, i64c (24 - suf.length))]) []) n ⟨n, 9, [], _, rfl, ⟨rfl, by omega, fun q => absurd q hc7, fun _ => rfl⟩, rfl, rfl, hA, hF, kp _ ⟨rfl, rfl, rfl, rfl, trivial⟩⟩ ?_
    clear hA hF
    rintro m a' u1 ⟨k, f, suf, l, rfl, hI, hl, hs, hA, hF, e, rfl⟩
    have hsl : suf.length ≤ 9 := by have := hI.1; omega
    refine c_seq (fun K11 hK11 => ?_)
    refine c_seq (fun K12 hK12 => ?_)
    refine c_reg ?_ -- region 8 const.go:302
    refine wl (ro_move rfl) ?_
    refine wl (ro_cmp (r := decide (0 < m)) rfl rfl (congrArg some (decide_eq_decide.2 (by omega)))) ?_
    refine wl_nil (x_then (hK12 _ _ ?_))
    clear hK12 K12
    refine wc_cond rfl (fun hc14 => ?_) (fun hc14 => ?_)
    · try simp only [decide_eq_true_eq, decide_eq_false_iff_not, Bool.not_eq_true', Bool.not_eq_false', Bool.not_eq_eq_eq_not, Bool.not_true, Bool.not_false, beq_iff_eq, bne_iff_ne, ne_eq, beq_eq_false_iff_ne, bne_eq_false_iff_eq, gt_iff_lt, ge_iff_le, Int.not_lt, Int.not_le] at hc14
      obtain ⟨f', rfl, hI'⟩ := hI.step hc14
      have hf9 := hI.1
      have hm9 : m ≤ 999999999 := by
        have h1 := hI.2.1
        have h2 : 10 ^ (f' + 1) ≤ 10 ^ 9 := Nat.pow_le_pow_right (by omega) (by omega)
        omega
      refine c_skip (x_then (hK11 _ _ ?_))
      clear hK11 K11
      refine c_block ?_
      refine forget [(0, _), (3, _), (4, _), (5, _)] ⟨rfl, rfl, rfl, rfl, trivial⟩ (fun e => ?_)
      refine c_seq (fun K13 hK13 => ?_)
      refine c_reg ?_ -- region 9 const.go:303
      refine wl (ro_move rfl) ?_
      refine wl (ro_arith (r := ((23 - suf.length : Nat) : Int)) rfl rfl (congrArg some (by omega)) (Go.IntWalk.i64_in _ (by omega))) ?_
      refine wl (ro_assign rfl) ?_
      refine wl_nil (x_then (hK13 _ _ ?_))
      clear hK13 K13
      refine forget [(0, _), (3, _), (4, _), (5, _)] ⟨rfl, rfl, rfl, rfl, trivial⟩ (fun e => ?_)
      refine c_seq (fun K14 hK14 => ?_)
      refine c_reg ?_ -- region 10 const.go:304
      refine wl (ro_move rfl) ?_
      refine wl (ro_move rfl) ?_
      refine wl (ro_remN (b := 10) rfl rfl (by omega)) ?_
      refine wl (ro_arith (r := ((48 + m % 10 : Nat) : Int)) rfl rfl rfl (Go.IntWalk.i64_in _ (by omega))) ?_
      refine wl (ro_toU8 rfl sc_3 in_5 (by omega)) ?_
      refine wl (ro_indexAddrA (et := 5) (k := 1) rfl rfl ar_221 (rfl) ((by omega))) ?_
      refine wl_put rfl rfl rfl sz_5 hA ((by omega)) (rfl) (fun w2 hA F2 => ?_)
      replace hF := hF.thenDrew.thenO F2 (by first | exact .inr (by omega) | exact .inl rfl | exact .inl (by assumption))
      refine wl_nil (x_then (hK14 _ _ ?_))
      clear hK14 K14
      refine c_reg ?_ -- region 11 const.go:305
      refine wl (ro_move rfl) ?_
      refine wl (ro_quoN (b := 10) rfl rfl (by omega) (by omega)) ?_
      refine wl (ro_assign rfl) ?_
      refine wl_nil (x_blk (x_then ?_))
      refine ⟨m / 10, by omega, m / 10, f', _, _, rfl, hI', ?_, ?_, hA, hF, kp _ ⟨rfl, rfl, rfl, ?_, trivial⟩⟩
      · rw [List.length_set]; exact hl
      · rw [show 24 - (UInt8.ofNat (48 + m % 10) :: suf).length = 0 + (23 - suf.length) * 1 by simp only [List.length_cons]; omega, drop_set_self _ _ _ (by omega), show 0 + (23 - suf.length) * 1 + 1 = 24 - suf.length by omega, hs]
        rfl
      · show some (Value.int .i64 ((23 - suf.length : Nat) : Int)) = _
        rw [show 24 - (UInt8.ofNat (48 + m % 10) :: suf).length = 23 - suf.length by simp only [List.length_cons]; omega]
        rfl
    · try simp only [decide_eq_true_eq, decide_eq_false_iff_not, Bool.not_eq_true', Bool.not_eq_false', Bool.not_eq_eq_eq_not, Bool.not_true, Bool.not_false, beq_iff_eq, bne_iff_ne, ne_eq, beq_eq_false_iff_ne, bne_eq_false_iff_eq, gt_iff_lt, ge_iff_le, Int.not_lt, Int.not_le] at hc14
      have hm0 : m = 0 := by omega
      subst hm0
      have hsd := hI.2.2.1 rfl
      subst hsd
      have hpos : 0 < (dgT n).length := by
        have := dgF_gt 8 n []
        exact this
      refine c_exit (x_thenX (x_thenX (x_blkX (x_then (hK10 _ _ ?_)))))
      clear hK11 K11 hK10 K10
      refine c_seq (fun K15 hK15 => ?_)
      refine c_seq (fun K16 hK16 => ?_)
      refine c_reg ?_ -- region 12 const.go:307
      refine wl (ro_move rfl) ?_
      refine wl_nil (x_then (hK16 _ _ ?_))
      clear hK16 K16
      refine wc_condF rfl ?_
      refine c_skip (x_then (hK15 _ _ ?_))
      clear hK15 K15
      refine forget [(4, _), (5, _)] ⟨rfl, rfl, trivial⟩ (fun e => ?_)
      refine c_seq (fun K17 hK17 => ?_)
      refine c_reg ?_ -- region 15 const.go:311
      refine wl (ro_move rfl) ?_
      refine wl (ro_sliceA (l := 24 - (dgT n).length) rfl rfl ar_221 rfl (by omega)) ?_
      refine wl (ro_toSo (q := 24 - (dgT n).length) (o := dgT n) (N := 24 - (24 - (dgT n).length)) (c := 24 - (24 - (dgT n).length)) (b := b4) (by show some (Value.slice (some (if 24 = 24 - (dgT n).length then _ else _)) _ _) = _; rw [if_neg (by omega)]; simp) se_58 (by kernel_rfl) st_9 hA (by omega) (fun j y hj ↦ by rw [← List.getElem?_drop, hs, List.getElem?_map, hj]; rfl)) ?_
      refine wl (ro_assign rfl) ?_
      refine wl_nil (x_then (hK17 _ _ ?_))
      clear hK17 K17
      refine c_ret ?_
      refine bp_ret Tryz.results178 rfl ?_
      exact ⟨rfl, hF⟩

section
variable {P : Program} {n : Nat} {e : Nat → Option Value} {w w1 : World} {ops : Array Oper} {Q : Exit → Act → World → Prop} {rest : List Oper} {ty : TypeId} {ps : String} {af : Array Edge} {d : Nat}
theorem wl_bs1 {t et : Nat} {x : Operand} {v : Value} (hx : evO n e x = some v) (h1 : v.cells = [v].toArray) (ht : selB P t et 1 = true) (hz : ∃ z, zeroB P et z ∧ z.length = 1) (K : ∀ b w1, w.heap.size ≤ b → Blk w1.heap b [v] et → Fram none' w w1 → WL P ops Q rest (Fr n (upd e d (.slice (some ⟨b, 0, none⟩) 1 1)) []) w1) :
    WL P ops Q (⟨some d, .buildSlice t 1 #[(0, x)], ty, ps, af, none⟩ :: rest) (Fr n e []) w := by
  refine wle (eo_bs1 hx h1 ht hz rfl rfl rfl) ?_
  exact K w.heap.size _ (Nat.le_refl _) (Blk.new w [v] et) (Fram.alloc none' w _)
end

theorem refText179 {w : World} {r : Rf} (hr : RfOK r) : Ret Tryz.prog 179 [rfA r] w (fun v w' => v = S (refT r) ∧ Fram none' w w') := by
  have hF : Fram none' w w := Fram.refl _ _
  obtain ⟨r1, r2, r3, r4⟩ := hr
  have hdl := dgF_len 9 (r.r + 1).toNat []
  refine ret_of Tryz.func179 rfl Tryz.ntmps179 rfl ?_
  refine c_seq (fun K1 hK1 => ?_)
  refine c_reg ?_ -- region 0 formm.go:332
  refine wl_box (cs := (refc r)) rfl rfl (fun b1 w1 hbb1 h1 F1 => ?_)
  have hbsb1 := Nat.le_trans hF.size hbb1
  replace hF := hF.thenDrew.thenN F1
  refine wl (ro_assign rfl) ?_
  refine wl_nil (x_then (hK1 _ _ ?_))
  clear hK1 K1
  refine forget [(1, _)] ⟨rfl, trivial⟩ (fun e => ?_)
  refine c_seq (fun K2 hK2 => ?_)
  refine c_reg ?_ -- region 1 formm.go:333
  refine wl (ro_assign rfl) ?_
  refine wl_nil (x_then (hK2 _ _ ?_))
  clear hK2 K2
  refine c_mid (fun a' w' => Blk w'.heap b1 (refc r) 141 ∧ Fram none' w w' ∧ ∃ e, a' = Fr 24 (upds e [(1, ptr b1), (3, S (if r.ac = true then [36] else []))]) []) ?_ ?_
  · skip
    refine c_seq (fun K3 hK3 => ?_)
    refine c_reg ?_ -- region 2 formm.go:334
    refine wl (ro_fieldAddr (k := 2) rfl fo_141_2) ?_
    refine wl (ro_loadB rfl sc_4 (by assumption) rfl) ?_
    refine wl_nil (x_then (hK3 _ _ ?_))
    clear hK3 K3
    refine wc_cond rfl (fun hc5 => ?_) (fun hc5 => ?_)
    · try simp only [decide_eq_true_eq, decide_eq_false_iff_not, Bool.not_eq_true', Bool.not_eq_false', Bool.not_eq_eq_eq_not, Bool.not_true, Bool.not_false, beq_iff_eq, bne_iff_ne, ne_eq, beq_eq_false_iff_ne, bne_eq_false_iff_eq, gt_iff_lt, ge_iff_le, Int.not_lt, Int.not_le] at hc5
      refine c_reg ?_ -- region 3 formm.go:335
      refine wl (ro_assign rfl) ?_
      refine wl_nil (x_then ?_)
      exact ⟨h1, hF, kp _ ⟨rfl, by rw [if_pos hc5]; rfl, trivial⟩⟩
    · try simp only [decide_eq_true_eq, decide_eq_false_iff_not, Bool.not_eq_true', Bool.not_eq_false', Bool.not_eq_eq_eq_not, Bool.not_true, Bool.not_false, beq_iff_eq, bne_iff_ne, ne_eq, beq_eq_false_iff_ne, bne_eq_false_iff_eq, gt_iff_lt, ge_iff_le, Int.not_lt, Int.not_le] at hc5
      refine c_skip (x_then ?_)
      exact ⟨h1, hF, kp _ ⟨rfl, by rw [if_neg (by rw [hc5]; decide)]; rfl, trivial⟩⟩
  clear hF h1
  rintro a' u2 ⟨h1, hF, e, rfl⟩
  refine c_seq (fun K4 hK4 => ?_)
  refine c_reg ?_ -- region 4 formm.go:337
  refine wl (ro_move rfl) ?_
  refine wl (ro_fieldAddr (k := 0) rfl fo_141_0) ?_
  refine wl (ro_loadB rfl sc_3 (by assumption) rfl) ?_
  refine wl (ro_arith (r := ((65 + r.c.toNat : Nat) : Int)) rfl rfl (congrArg some (by omega)) (Go.IntWalk.i64_in _ (by omega))) ?_
  refine wl (ro_toU8 rfl sc_3 in_5 (by omega)) ?_
  refine wl_bs1 rfl rfl se_58 zx_5 (fun b11 w11 hb11 h11 F11 => ?_)
  replace hF := hF.thenN F11
  replace h1 := F11.blkN h1
  refine wl (ro_toS (o := [UInt8.ofNat (65 + r.c.toNat)]) rfl se_58 (by kernel_rfl) st_9 h11 rfl (fun j y hj ↦ by cases j with | zero => (cases hj; rfl) | succ j => (simp at hj))) ?_
  refine wl (ro_catS rfl rfl (by cases r.ac <;> simp)) ?_
  refine wl (ro_assign rfl) ?_
  refine wl_nil (x_then (hK4 _ _ ?_))
  clear hK4 K4
  refine c_mid (fun a' w' => Blk w'.heap b1 (refc r) 141 ∧ Fram none' w w' ∧ ∃ e, a' = Fr 24 (upds e [(1, ptr b1), (3, S ((if r.ac = true then [36] else []) ++ [UInt8.ofNat (65 + r.c.toNat)] ++ (if r.ar = true then [36] else [])))]) []) ?_ ?_
  · skip
    refine c_seq (fun K5 hK5 => ?_)
    refine c_reg ?_ -- region 5 formm.go:338
    refine wl (ro_fieldAddr (k := 3) rfl fo_141_3) ?_
    refine wl (ro_loadB rfl sc_4 (by assumption) rfl) ?_
    refine wl_nil (x_then (hK5 _ _ ?_))
    clear hK5 K5
    refine wc_cond rfl (fun hc15 => ?_) (fun hc15 => ?_)
    · try simp only [decide_eq_true_eq, decide_eq_false_iff_not, Bool.not_eq_true', Bool.not_eq_false', Bool.not_eq_eq_eq_not, Bool.not_true, Bool.not_false, beq_iff_eq, bne_iff_ne, ne_eq, beq_eq_false_iff_ne, bne_eq_false_iff_eq, gt_iff_lt, ge_iff_le, Int.not_lt, Int.not_le] at hc15
      refine c_reg ?_ -- region 6 formm.go:339
      refine wl (ro_move rfl) ?_
      refine wl (ro_catS rfl rfl (by cases r.ac <;> simp)) ?_
      refine wl (ro_assign rfl) ?_
      refine wl_nil (x_then ?_)
      exact ⟨h1, hF, kp _ ⟨rfl, by rw [show (if r.ar = true then [(36 : UInt8)] else []) = [36] by rw [hc15]; rfl]; rfl, trivial⟩⟩
    · try simp only [decide_eq_true_eq, decide_eq_false_iff_not, Bool.not_eq_true', Bool.not_eq_false', Bool.not_eq_eq_eq_not, Bool.not_true, Bool.not_false, beq_iff_eq, bne_iff_ne, ne_eq, beq_eq_false_iff_ne, bne_eq_false_iff_eq, gt_iff_lt, ge_iff_le, Int.not_lt, Int.not_le] at hc15
      refine c_skip (x_then ?_)
      exact ⟨h1, hF, kp _ ⟨rfl, by rw [show (if r.ar = true then [(36 : UInt8)] else []) = [] by rw [hc15]; rfl, List.append_nil]; rfl, trivial⟩⟩
  clear hF h1
  rintro a' u3 ⟨h1, hF, e, rfl⟩
  refine c_seq (fun K6 hK6 => ?_)
  refine c_reg ?_ -- region 7 formm.go:341
  refine wl (ro_move rfl) ?_
  refine wl (ro_fieldAddr (k := 1) rfl fo_141_1) ?_
  refine wl (ro_loadB rfl sc_3 (by assumption) rfl) ?_
  refine wl (ro_arith (r := (((r.r + 1).toNat : Nat) : Int)) rfl rfl (congrArg some (by omega)) (Go.IntWalk.i64_in _ (by omega))) ?_
  refine wl_call rfl en_178 (Itoa178 (by omega)) ?_
  rintro _ u4 ⟨rfl, G4⟩
  replace hF := hF.transG G4 (by intro k hk h; simp only [none'] at h ⊢ <;> omega)
  replace h1 := G4.blkF h1 (by intro h; simp only [none'] at h <;> omega)
  refine wl (ro_catS rfl rfl (by unfold dgT; simp only [List.length_append, List.length_cons, List.length_nil] at hdl ⊢; cases r.ac <;> cases r.ar <;> simp <;> omega)) ?_
  refine wl (ro_assign rfl) ?_
  refine wl_nil (x_then (hK6 _ _ ?_))
  clear hK6 K6
  refine c_ret ?_
  refine bp_ret Tryz.results179 rfl ?_
  exact ⟨rfl, hF⟩
theorem Level177 {w : World} {x : Nd} : Ret Tryz.prog 177 [ndV x] w (fun v w' => v = i64c (lvl x) ∧ Fram none' w w') := by
  have hF : Fram none' w w := Fram.refl _ _
  refine ret_of Tryz.func177 rfl Tryz.ntmps177 rfl ?_
  refine c_seq (fun K1 hK1 => ?_)
  refine c_reg ?_ -- region 0 formm.go:345
  refine wl_box (cs := (ndc x)) rfl rfl (fun b1 w1 hbb1 h1 F1 => ?_)
  have hbsb1 := Nat.le_trans hF.size hbb1
  replace hF := hF.thenDrew.thenN F1
  refine wl (ro_assign rfl) ?_
  refine wl_nil (x_then (hK1 _ _ ?_))
  clear hK1 K1
  refine c_seq (fun K2 hK2 => ?_)
  refine c_seq (fun K3 hK3 => ?_)
  refine c_reg ?_ -- region 1 formm.go:346
  refine wl (ro_fieldAddr (k := 0) rfl fo_143_0) ?_
  refine wl (ro_loadB rfl sc_3 (by assumption) rfl) ?_
  refine wl (ro_cmp rfl rfl rfl) ?_
  refine wl_nil (x_then (hK3 _ _ ?_))
  clear hK3 K3
  refine wc_cond rfl (fun hc5 => ?_) (fun hc5 => ?_)
  · try simp only [decide_eq_true_eq, decide_eq_false_iff_not, Bool.not_eq_true', Bool.not_eq_false', Bool.not_eq_eq_eq_not, Bool.not_true, Bool.not_false, beq_iff_eq, bne_iff_ne, ne_eq, beq_eq_false_iff_ne, bne_eq_false_iff_eq, gt_iff_lt, ge_iff_le, Int.not_lt, Int.not_le] at hc5
    refine c_seq (fun K4 hK4 => ?_)
    refine c_reg ?_ -- region 2 formm.go:347
    refine wl (ro_assign rfl) ?_
    refine wl_nil (x_then (hK4 _ _ ?_))
    clear hK4 K4
    refine c_ret (x_thenR ?_)
    refine bp_ret Tryz.results177 rfl ?_
    exact ⟨by unfold lvl; rw [if_pos hc5]; rfl, hF⟩
  · try simp only [decide_eq_true_eq, decide_eq_false_iff_not, Bool.not_eq_true', Bool.not_eq_false', Bool.not_eq_eq_eq_not, Bool.not_true, Bool.not_false, beq_iff_eq, bne_iff_ne, ne_eq, beq_eq_false_iff_ne, bne_eq_false_iff_eq, gt_iff_lt, ge_iff_le, Int.not_lt, Int.not_le] at hc5
    refine c_skip (x_then (hK2 _ _ ?_))
    clear hK2 K2
    refine c_seq (fun K5 hK5 => ?_)
    refine c_seq (fun K6 hK6 => ?_)
    refine c_reg ?_ -- region 3 formm.go:349
    refine wl (ro_fieldAddr (k := 0) rfl fo_143_0) ?_
    refine wl (ro_loadB rfl sc_3 (by assumption) rfl) ?_
    refine wl (ro_cmp rfl rfl rfl) ?_
    refine wl_nil (x_then (hK6 _ _ ?_))
    clear hK6 K6
    refine wc_cond rfl (fun hc8 => ?_) (fun hc8 => ?_)
    · try simp only [decide_eq_true_eq, decide_eq_false_iff_not, Bool.not_eq_true', Bool.not_eq_false', Bool.not_eq_eq_eq_not, Bool.not_true, Bool.not_false, beq_iff_eq, bne_iff_ne, ne_eq, beq_eq_false_iff_ne, bne_eq_false_iff_eq, gt_iff_lt, ge_iff_le, Int.not_lt, Int.not_le] at hc8
      refine c_seq (fun K7 hK7 => ?_)
      refine c_reg ?_ -- region 4 formm.go:350
      refine wl (ro_assign rfl) ?_
      refine wl_nil (x_then (hK7 _ _ ?_))
      clear hK7 K7
      refine c_ret (x_thenR ?_)
      refine bp_ret Tryz.results177 rfl ?_
      exact ⟨by unfold lvl; rw [if_neg hc5, if_neg hc8]; rfl, hF⟩
    · try simp only [decide_eq_true_eq, decide_eq_false_iff_not, Bool.not_eq_true', Bool.not_eq_false', Bool.not_eq_eq_eq_not, Bool.not_true, Bool.not_false, beq_iff_eq, bne_iff_ne, ne_eq, beq_eq_false_iff_ne, bne_eq_false_iff_eq, gt_iff_lt, ge_iff_le, Int.not_lt, Int.not_le] at hc8
      refine c_skip (x_then (hK5 _ _ ?_))
      clear hK5 K5
      refine c_seq (fun K8 hK8 => ?_)
      refine c_seq (fun K9 hK9 => ?_)
      refine c_reg ?_ -- region 5 formm.go:352
      refine wl (ro_fieldAddr (k := 1) rfl fo_143_1) ?_
      refine wl (ro_loadB rfl sc_3 (by assumption) rfl) ?_
      refine wl (ro_cmp rfl rfl rfl) ?_
      refine wl_nil (x_then (hK9 _ _ ?_))
      clear hK9 K9
      refine wc_cond rfl (fun hc11 => ?_) (fun hc11 => ?_)
      · try simp only [decide_eq_true_eq, decide_eq_false_iff_not, Bool.not_eq_true', Bool.not_eq_false', Bool.not_eq_eq_eq_not, Bool.not_true, Bool.not_false, beq_iff_eq, bne_iff_ne, ne_eq, beq_eq_false_iff_ne, bne_eq_false_iff_eq, gt_iff_lt, ge_iff_le, Int.not_lt, Int.not_le] at hc11
        refine c_seq (fun K10 hK10 => ?_)
        refine c_reg ?_ -- region 6 formm.go:353
        refine wl (ro_assign rfl) ?_
        refine wl_nil (x_then (hK10 _ _ ?_))
        clear hK10 K10
        refine c_ret (x_thenR ?_)
        refine bp_ret Tryz.results177 rfl ?_
        exact ⟨by unfold lvl strg; rw [if_neg hc5, if_pos (by omega), if_pos (by omega)]; rfl, hF⟩
      · try simp only [decide_eq_true_eq, decide_eq_false_iff_not, Bool.not_eq_true', Bool.not_eq_false', Bool.not_eq_eq_eq_not, Bool.not_true, Bool.not_false, beq_iff_eq, bne_iff_ne, ne_eq, beq_eq_false_iff_ne, bne_eq_false_iff_eq, gt_iff_lt, ge_iff_le, Int.not_lt, Int.not_le] at hc11
        refine c_skip (x_then (hK8 _ _ ?_))
        clear hK8 K8
        refine c_seq (fun K11 hK11 => ?_)
        refine c_seq (fun K12 hK12 => ?_)
        refine c_reg ?_ -- region 7 formm.go:355
        refine wl (ro_fieldAddr (k := 1) rfl fo_143_1) ?_
        refine wl (ro_loadB rfl sc_3 (by assumption) rfl) ?_
        refine wl (ro_cmp rfl rfl rfl) ?_
        refine wl_nil (x_then (hK12 _ _ ?_))
        clear hK12 K12
        refine wc_cond rfl (fun hc14 => ?_) (fun hc14 => ?_)
        · try simp only [decide_eq_true_eq, decide_eq_false_iff_not, Bool.not_eq_true', Bool.not_eq_false', Bool.not_eq_eq_eq_not, Bool.not_true, Bool.not_false, beq_iff_eq, bne_iff_ne, ne_eq, beq_eq_false_iff_ne, bne_eq_false_iff_eq, gt_iff_lt, ge_iff_le, Int.not_lt, Int.not_le] at hc14
          refine c_seq (fun K13 hK13 => ?_)
          refine c_reg ?_ -- region 8 formm.go:356
          refine wl (ro_assign rfl) ?_
          refine wl_nil (x_then (hK13 _ _ ?_))
          clear hK13 K13
          refine c_ret (x_thenR ?_)
          refine bp_ret Tryz.results177 rfl ?_
          exact ⟨by unfold lvl strg; rw [if_neg hc5, if_pos (by omega), if_neg (by omega), if_pos (by omega)]; rfl, hF⟩
        · try simp only [decide_eq_true_eq, decide_eq_false_iff_not, Bool.not_eq_true', Bool.not_eq_false', Bool.not_eq_eq_eq_not, Bool.not_true, Bool.not_false, beq_iff_eq, bne_iff_ne, ne_eq, beq_eq_false_iff_ne, bne_eq_false_iff_eq, gt_iff_lt, ge_iff_le, Int.not_lt, Int.not_le] at hc14
          refine c_skip (x_then (hK11 _ _ ?_))
          clear hK11 K11
          refine forget [] trivial (fun e => ?_)
          refine c_seq (fun K14 hK14 => ?_)
          refine c_reg ?_ -- region 9 formm.go:358
          refine wl (ro_assign rfl) ?_
          refine wl_nil (x_then (hK14 _ _ ?_))
          clear hK14 K14
          refine c_ret ?_
          refine bp_ret Tryz.results177 rfl ?_
          exact ⟨by unfold lvl strg; rw [if_neg hc5, if_pos (by omega), if_neg (by omega), if_neg (by omega)]; rfl, hF⟩
theorem opText180 {w : World} {o : Nat} : Ret Tryz.prog 180 [i64c o] w (fun v w' => v = S (opT o) ∧ w' = w) := by
  refine ret_of Tryz.func180 rfl Tryz.ntmps180 rfl ?_
  refine c_seq (fun K1 hK1 => ?_)
  refine c_reg ?_ -- region 0 formm.go:361
  refine wl (ro_assign rfl) ?_
  refine wl_nil (x_then (hK1 _ _ ?_))
  clear hK1 K1
  refine c_seq (fun K2 hK2 => ?_)
  refine c_seq (fun K3 hK3 => ?_)
  refine c_reg ?_ -- region 1 formm.go:362
  refine wl (ro_move rfl) ?_
  refine wl_nil (x_then (hK3 _ _ ?_))
  clear hK3 K3
  refine c_block ?_
  refine forget [(3, _)] ⟨rfl, trivial⟩ (fun e => ?_)
  refine c_seq (fun K4 hK4 => ?_)
  refine c_reg ?_ -- region 2 formm.go:363
  refine wl (ro_cmp (r := decide (o = 1)) rfl rfl (congrArg some (beqc o 1))) ?_
  refine wl (ro_assign rfl) ?_
  refine wl_nil (x_then (hK4 _ _ ?_))
  clear hK4 K4
  refine wc_cond rfl (fun hc4 => ?_) (fun hc4 => ?_)
  · try simp only [decide_eq_true_eq, decide_eq_false_iff_not, Bool.not_eq_true', Bool.not_eq_false', Bool.not_eq_eq_eq_not, Bool.not_true, Bool.not_false, beq_iff_eq, bne_iff_ne, ne_eq, beq_eq_false_iff_ne, bne_eq_false_iff_eq, gt_iff_lt, ge_iff_le, Int.not_lt, Int.not_le] at hc4
    refine c_seq (fun K5 hK5 => ?_)
    refine c_reg ?_ -- region 3 formm.go:364
    refine wl (ro_assign rfl) ?_
    refine wl_nil (x_then (hK5 _ _ ?_))
    clear hK5 K5
    refine c_ret (x_blkR (x_thenR ?_))
    refine bp_ret Tryz.results180 rfl ?_
    exact ⟨by rw [hc4]; rfl, rfl⟩
  · try simp only [decide_eq_true_eq, decide_eq_false_iff_not, Bool.not_eq_true', Bool.not_eq_false', Bool.not_eq_eq_eq_not, Bool.not_true, Bool.not_false, beq_iff_eq, bne_iff_ne, ne_eq, beq_eq_false_iff_ne, bne_eq_false_iff_eq, gt_iff_lt, ge_iff_le, Int.not_lt, Int.not_le] at hc4
    refine c_seq (fun K6 hK6 => ?_)
    refine c_reg ?_ -- region 4 formm.go:365
    refine wl (ro_cmp (r := decide (o = 2)) rfl rfl (congrArg some (beqc o 2))) ?_
    refine wl (ro_assign rfl) ?_
    refine wl_nil (x_then (hK6 _ _ ?_))
    clear hK6 K6
    refine wc_cond rfl (fun hc6 => ?_) (fun hc6 => ?_)
    · try simp only [decide_eq_true_eq, decide_eq_false_iff_not, Bool.not_eq_true', Bool.not_eq_false', Bool.not_eq_eq_eq_not, Bool.not_true, Bool.not_false, beq_iff_eq, bne_iff_ne, ne_eq, beq_eq_false_iff_ne, bne_eq_false_iff_eq, gt_iff_lt, ge_iff_le, Int.not_lt, Int.not_le] at hc6
      refine c_seq (fun K7 hK7 => ?_)
      refine c_reg ?_ -- region 5 formm.go:366
      refine wl (ro_assign rfl) ?_
      refine wl_nil (x_then (hK7 _ _ ?_))
      clear hK7 K7
      refine c_ret (x_blkR (x_thenR ?_))
      refine bp_ret Tryz.results180 rfl ?_
      exact ⟨by rw [hc6]; rfl, rfl⟩
    · try simp only [decide_eq_true_eq, decide_eq_false_iff_not, Bool.not_eq_true', Bool.not_eq_false', Bool.not_eq_eq_eq_not, Bool.not_true, Bool.not_false, beq_iff_eq, bne_iff_ne, ne_eq, beq_eq_false_iff_ne, bne_eq_false_iff_eq, gt_iff_lt, ge_iff_le, Int.not_lt, Int.not_le] at hc6
      refine c_seq (fun K8 hK8 => ?_)
      refine c_reg ?_ -- region 6 formm.go:367
      refine wl (ro_cmp (r := decide (o = 3)) rfl rfl (congrArg some (beqc o 3))) ?_
      refine wl (ro_assign rfl) ?_
      refine wl_nil (x_then (hK8 _ _ ?_))
      clear hK8 K8
      refine wc_cond rfl (fun hc8 => ?_) (fun hc8 => ?_)
      · try simp only [decide_eq_true_eq, decide_eq_false_iff_not, Bool.not_eq_true', Bool.not_eq_false', Bool.not_eq_eq_eq_not, Bool.not_true, Bool.not_false, beq_iff_eq, bne_iff_ne, ne_eq, beq_eq_false_iff_ne, bne_eq_false_iff_eq, gt_iff_lt, ge_iff_le, Int.not_lt, Int.not_le] at hc8
        refine c_seq (fun K9 hK9 => ?_)
        refine c_reg ?_ -- region 7 formm.go:368
        refine wl (ro_assign rfl) ?_
        refine wl_nil (x_then (hK9 _ _ ?_))
        clear hK9 K9
        refine c_ret (x_blkR (x_thenR ?_))
        refine bp_ret Tryz.results180 rfl ?_
        exact ⟨by rw [hc8]; rfl, rfl⟩
      · try simp only [decide_eq_true_eq, decide_eq_false_iff_not, Bool.not_eq_true', Bool.not_eq_false', Bool.not_eq_eq_eq_not, Bool.not_true, Bool.not_false, beq_iff_eq, bne_iff_ne, ne_eq, beq_eq_false_iff_ne, bne_eq_false_iff_eq, gt_iff_lt, ge_iff_le, Int.not_lt, Int.not_le] at hc8
        refine c_seq (fun K10 hK10 => ?_)
        refine c_reg ?_ -- region 8 formm.go:369
        refine wl (ro_cmp (r := decide (o = 4)) rfl rfl (congrArg some (beqc o 4))) ?_
        refine wl (ro_assign rfl) ?_
        refine wl_nil (x_then (hK10 _ _ ?_))
        clear hK10 K10
        refine wc_cond rfl (fun hc10 => ?_) (fun hc10 => ?_)
        · try simp only [decide_eq_true_eq, decide_eq_false_iff_not, Bool.not_eq_true', Bool.not_eq_false', Bool.not_eq_eq_eq_not, Bool.not_true, Bool.not_false, beq_iff_eq, bne_iff_ne, ne_eq, beq_eq_false_iff_ne, bne_eq_false_iff_eq, gt_iff_lt, ge_iff_le, Int.not_lt, Int.not_le] at hc10
          refine c_seq (fun K11 hK11 => ?_)
          refine c_reg ?_ -- region 9 formm.go:370
          refine wl (ro_assign rfl) ?_
          refine wl_nil (x_then (hK11 _ _ ?_))
          clear hK11 K11
          refine c_ret (x_blkR (x_thenR ?_))
          refine bp_ret Tryz.results180 rfl ?_
          exact ⟨by rw [hc10]; rfl, rfl⟩
        · try simp only [decide_eq_true_eq, decide_eq_false_iff_not, Bool.not_eq_true', Bool.not_eq_false', Bool.not_eq_eq_eq_not, Bool.not_true, Bool.not_false, beq_iff_eq, bne_iff_ne, ne_eq, beq_eq_false_iff_ne, bne_eq_false_iff_eq, gt_iff_lt, ge_iff_le, Int.not_lt, Int.not_le] at hc10
          refine c_seq (fun K12 hK12 => ?_)
          refine c_reg ?_ -- region 10 formm.go:371
          refine wl (ro_cmp (r := decide (o = 5)) rfl rfl (congrArg some (beqc o 5))) ?_
          refine wl (ro_assign rfl) ?_
          refine wl_nil (x_then (hK12 _ _ ?_))
          clear hK12 K12
          refine wc_cond rfl (fun hc12 => ?_) (fun hc12 => ?_)
          · try simp only [decide_eq_true_eq, decide_eq_false_iff_not, Bool.not_eq_true', Bool.not_eq_false', Bool.not_eq_eq_eq_not, Bool.not_true, Bool.not_false, beq_iff_eq, bne_iff_ne, ne_eq, beq_eq_false_iff_ne, bne_eq_false_iff_eq, gt_iff_lt, ge_iff_le, Int.not_lt, Int.not_le] at hc12
            refine c_seq (fun K13 hK13 => ?_)
            refine c_reg ?_ -- region 11 formm.go:372
            refine wl (ro_assign rfl) ?_
            refine wl_nil (x_then (hK13 _ _ ?_))
            clear hK13 K13
            refine c_ret (x_blkR (x_thenR ?_))
            refine bp_ret Tryz.results180 rfl ?_
            exact ⟨by rw [hc12]; rfl, rfl⟩
          · try simp only [decide_eq_true_eq, decide_eq_false_iff_not, Bool.not_eq_true', Bool.not_eq_false', Bool.not_eq_eq_eq_not, Bool.not_true, Bool.not_false, beq_iff_eq, bne_iff_ne, ne_eq, beq_eq_false_iff_ne, bne_eq_false_iff_eq, gt_iff_lt, ge_iff_le, Int.not_lt, Int.not_le] at hc12
            refine c_seq (fun K14 hK14 => ?_)
            refine c_reg ?_ -- region 12 formm.go:373
            refine wl (ro_cmp (r := decide (o = 6)) rfl rfl (congrArg some (beqc o 6))) ?_
            refine wl (ro_assign rfl) ?_
            refine wl_nil (x_then (hK14 _ _ ?_))
            clear hK14 K14
            refine wc_cond rfl (fun hc14 => ?_) (fun hc14 => ?_)
            · try simp only [decide_eq_true_eq, decide_eq_false_iff_not, Bool.not_eq_true', Bool.not_eq_false', Bool.not_eq_eq_eq_not, Bool.not_true, Bool.not_false, beq_iff_eq, bne_iff_ne, ne_eq, beq_eq_false_iff_ne, bne_eq_false_iff_eq, gt_iff_lt, ge_iff_le, Int.not_lt, Int.not_le] at hc14
              refine c_seq (fun K15 hK15 => ?_)
              refine c_reg ?_ -- region 13 formm.go:374
              refine wl (ro_assign rfl) ?_
              refine wl_nil (x_then (hK15 _ _ ?_))
              clear hK15 K15
              refine c_ret (x_blkR (x_thenR ?_))
              refine bp_ret Tryz.results180 rfl ?_
              exact ⟨by rw [hc14]; rfl, rfl⟩
            · try simp only [decide_eq_true_eq, decide_eq_false_iff_not, Bool.not_eq_true', Bool.not_eq_false', Bool.not_eq_eq_eq_not, Bool.not_true, Bool.not_false, beq_iff_eq, bne_iff_ne, ne_eq, beq_eq_false_iff_ne, bne_eq_false_iff_eq, gt_iff_lt, ge_iff_le, Int.not_lt, Int.not_le] at hc14
              refine c_seq (fun K16 hK16 => ?_)
              refine c_reg ?_ -- region 14 formm.go:375
              refine wl (ro_cmp (r := decide (o = 7)) rfl rfl (congrArg some (beqc o 7))) ?_
              refine wl (ro_assign rfl) ?_
              refine wl_nil (x_then (hK16 _ _ ?_))
              clear hK16 K16
              refine wc_cond rfl (fun hc16 => ?_) (fun hc16 => ?_)
              · try simp only [decide_eq_true_eq, decide_eq_false_iff_not, Bool.not_eq_true', Bool.not_eq_false', Bool.not_eq_eq_eq_not, Bool.not_true, Bool.not_false, beq_iff_eq, bne_iff_ne, ne_eq, beq_eq_false_iff_ne, bne_eq_false_iff_eq, gt_iff_lt, ge_iff_le, Int.not_lt, Int.not_le] at hc16
                refine c_seq (fun K17 hK17 => ?_)
                refine c_reg ?_ -- region 15 formm.go:376
                refine wl (ro_assign rfl) ?_
                refine wl_nil (x_then (hK17 _ _ ?_))
                clear hK17 K17
                refine c_ret (x_blkR (x_thenR ?_))
                refine bp_ret Tryz.results180 rfl ?_
                exact ⟨by rw [hc16]; rfl, rfl⟩
              · try simp only [decide_eq_true_eq, decide_eq_false_iff_not, Bool.not_eq_true', Bool.not_eq_false', Bool.not_eq_eq_eq_not, Bool.not_true, Bool.not_false, beq_iff_eq, bne_iff_ne, ne_eq, beq_eq_false_iff_ne, bne_eq_false_iff_eq, gt_iff_lt, ge_iff_le, Int.not_lt, Int.not_le] at hc16
                refine c_seq (fun K18 hK18 => ?_)
                refine c_reg ?_ -- region 16 formm.go:377
                refine wl (ro_cmp (r := decide (o = 8)) rfl rfl (congrArg some (beqc o 8))) ?_
                refine wl (ro_assign rfl) ?_
                refine wl_nil (x_then (hK18 _ _ ?_))
                clear hK18 K18
                refine wc_cond rfl (fun hc18 => ?_) (fun hc18 => ?_)
                · try simp only [decide_eq_true_eq, decide_eq_false_iff_not, Bool.not_eq_true', Bool.not_eq_false', Bool.not_eq_eq_eq_not, Bool.not_true, Bool.not_false, beq_iff_eq, bne_iff_ne, ne_eq, beq_eq_false_iff_ne, bne_eq_false_iff_eq, gt_iff_lt, ge_iff_le, Int.not_lt, Int.not_le] at hc18
                  refine c_seq (fun K19 hK19 => ?_)
                  refine c_reg ?_ -- region 17 formm.go:378
                  refine wl (ro_assign rfl) ?_
                  refine wl_nil (x_then (hK19 _ _ ?_))
                  clear hK19 K19
                  refine c_ret (x_blkR (x_thenR ?_))
                  refine bp_ret Tryz.results180 rfl ?_
                  exact ⟨by rw [hc18]; rfl, rfl⟩
                · try simp only [decide_eq_true_eq, decide_eq_false_iff_not, Bool.not_eq_true', Bool.not_eq_false', Bool.not_eq_eq_eq_not, Bool.not_true, Bool.not_false, beq_iff_eq, bne_iff_ne, ne_eq, beq_eq_false_iff_ne, bne_eq_false_iff_eq, gt_iff_lt, ge_iff_le, Int.not_lt, Int.not_le] at hc18
                  refine c_seq (fun K20 hK20 => ?_)
                  refine c_reg ?_ -- region 18 formm.go:379
                  refine wl (ro_cmp (r := decide (o = 9)) rfl rfl (congrArg some (beqc o 9))) ?_
                  refine wl (ro_assign rfl) ?_
                  refine wl_nil (x_then (hK20 _ _ ?_))
                  clear hK20 K20
                  refine wc_cond rfl (fun hc20 => ?_) (fun hc20 => ?_)
                  · try simp only [decide_eq_true_eq, decide_eq_false_iff_not, Bool.not_eq_true', Bool.not_eq_false', Bool.not_eq_eq_eq_not, Bool.not_true, Bool.not_false, beq_iff_eq, bne_iff_ne, ne_eq, beq_eq_false_iff_ne, bne_eq_false_iff_eq, gt_iff_lt, ge_iff_le, Int.not_lt, Int.not_le] at hc20
                    refine c_seq (fun K21 hK21 => ?_)
                    refine c_reg ?_ -- region 19 formm.go:380
                    refine wl (ro_assign rfl) ?_
                    refine wl_nil (x_then (hK21 _ _ ?_))
                    clear hK21 K21
                    refine c_ret (x_blkR (x_thenR ?_))
                    refine bp_ret Tryz.results180 rfl ?_
                    exact ⟨by rw [hc20]; rfl, rfl⟩
                  · try simp only [decide_eq_true_eq, decide_eq_false_iff_not, Bool.not_eq_true', Bool.not_eq_false', Bool.not_eq_eq_eq_not, Bool.not_true, Bool.not_false, beq_iff_eq, bne_iff_ne, ne_eq, beq_eq_false_iff_ne, bne_eq_false_iff_eq, gt_iff_lt, ge_iff_le, Int.not_lt, Int.not_le] at hc20
                    refine c_skip (x_blk (x_then (hK2 _ _ ?_)))
                    clear hK2 K2
                    refine forget [] trivial (fun e => ?_)
                    refine c_seq (fun K22 hK22 => ?_)
                    refine c_reg ?_ -- region 20 formm.go:382
                    refine wl (ro_assign rfl) ?_
                    refine wl_nil (x_then (hK22 _ _ ?_))
                    clear hK22 K22
                    refine c_ret ?_
                    refine bp_ret Tryz.results180 rfl ?_
                    refine ⟨?_, rfl⟩
                    have : opT o = [47] := by
                      unfold opT
                      split <;> first | rfl | contradiction
                    rw [this]
                    rfl

end Go.Proofs.Qxb6500570aGreat
