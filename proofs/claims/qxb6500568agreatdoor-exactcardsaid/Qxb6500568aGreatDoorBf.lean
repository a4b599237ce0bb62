import Derived.Test.Qxb6500568aGreatDoorBe
import Derived.Test.Qxb6500568aGreatDoorPd
/- Texts of numbers: Utoa, Itoa, the model's Format. -/
namespace Go.Proofs.Qxb6500568aGreatDoor
open Ieee
set_option linter.unusedVariables false
set_option linter.unusedSimpArgs false
section
variable {P : Program} {n : Nat} {e : Nat → Option Value} {w : World}
theorem ro_sliceA {t len et k b o l : Nat} {q : IntKind} {lo : Int} {x y : Operand} (hx : evO n e x = some (.pointer (some ⟨b, o, none⟩))) (hy : evO n e y = some (.int q lo)) (ht : arrB P t len et k = true)
    (hl : lo = (l : Int)) (h1 : l ≤ len) : RO P n e w (.slice t x (some y) none none) (.slice (some (if len = l then ⟨b, o, none⟩ else ⟨b, o + l * k, none⟩)) (len - l) (len - l)) := by
  intro ds dst ty ps af g
  obtain ⟨t1, t2⟩ := arrB_spec ht
  subst hl
  simp [execOp, evO_eval hx, evO_eval hy, Instr.sliceAt, run_underlying t1, Instr.sureAddr, Instr.sliceBounds, Instr.sliceBound, asIntOf, h1, run_sizeOf t2, addr_add]
theorem ro_remU {t t' : TypeId} {x y : Operand} {a b : Nat} (hx : evO n e x = some (u64c a)) (hy : evO n e y = some (u64c b)) (hb : 0 < b) : RO P n e w (.binOp .rem t x y t') (u64c (a % b)) := by
  have h := ro_rem (P := P) (w := w) (t := t) (t' := t') hx hy (by omega)
  rw [Int.tmod_eq_emod_of_nonneg (by omega)] at h
  exact h
theorem ro_quoU {t t' : TypeId} {x y : Operand} {a b : Nat} (hx : evO n e x = some (u64c a)) (hy : evO n e y = some (u64c b)) (hb : 0 < b) (ha : W64 a) : RO P n e w (.binOp .quo t x y t') (u64c (a / b)) := by
  have hq : (a : Int).tdiv b = ((a / b : Nat) : Int) := by rw [Int.tdiv_eq_ediv_of_nonneg (by omega)]; exact (Int.natCast_ediv a b).symm
  have hle := Nat.div_le_self a b
  unfold W64 at ha
  generalize a / b = q at hq hle ⊢
  have h := ro_quo (P := P) (w := w) (t := t) (t' := t') hx hy (by omega) (by rw [hq]; exact Go.IntWalk.u64_in _ (by omega))
  rw [hq] at h
  exact h
theorem ro_toSo {src dst b N c q : Nat} {x : Operand} {o : List UInt8} {l : List Value} {t : TypeId} (hx : evO n e x = some (.slice (some ⟨b, q, none⟩) N c)) (hs : selB P src 5 1 = true) (he : P.underlying 5 = some (.int .u8)) (hd : strB P dst = true) (hB : Blk w.heap b l t) (ho : o.length = N) (hl : ∀ (k : Nat) (y : UInt8), o[k]? = some y → l[q + k]? = some (u8c y)) : RO P n e w (.convert src dst x) (S o) := by
  intro ds dst' ty ps af g
  have hd' := strB_spec hd
  obtain ⟨t1, t2⟩ := selB_spec hs
  subst ho
  have hsrc : ∀ j v, ((o.map (fun y : UInt8 => (y.toNat : Int))).map (Value.int .u8))[j]? = some v → w.cell? ((⟨b, q, none⟩ : Addr).add j) = some v := by
    intro j v hv
    rw [addr_add, hB.cell]
    rw [List.map_map, List.getElem?_map] at hv
    cases hj : o[j]? with
    | none => rw [hj] at hv; cases hv
    | some y =>
      rw [hj] at hv
      cases hv
      exact hl j y hj
  have hld := run_loadCells_list (P := P) w ⟨b, q, none⟩ _ hsrc
  rw [List.length_map, List.length_map] at hld
  have h1 := run_bytesToString (P := P) w ⟨b, q, none⟩ o.length c (o.map (fun y : UInt8 => (y.toNat : Int))) hld
  have h2 := run_convert_bytes_string (P := P) w src dst 5 (some ⟨b, q, none⟩) o.length c t1 he hd'
  rw [fold_bytes] at h1
  simp [execOp, evO_eval hx, h2, h1, S]
theorem ro_toU8 {src dst : TypeId} {x : Operand} {k' : IntKind} {m : Nat} (hx : evO n e x = some (.int k' (m : Int))) (hs : scalB P src = true) (hd : intB P dst .u8 = true) (hm : m < 256) : RO P n e w (.convert src dst x) (u8c (UInt8.ofNat m)) := by
  have h := ro_conv (P := P) (w := w) hx hs hd (Go.IntWalk.u8_in _ (by omega))
  have : (UInt8.ofNat m).toNat = m := by simp; omega
  unfold u8c
  rw [this]
  exact h
end
theorem drop_set_self {α : Type} (l : List α) (i : Nat) (v : α) (h : i < l.length) : (l.set i v).drop i = v :: l.drop (i + 1) := by
  rw [List.drop_eq_getElem_cons (by simpa using h), List.drop_set_of_lt (by omega)]
  simp
def ItI (n k f : Nat) (suf : List UInt8) : Prop := f + suf.length = 20 ∧ k < 10 ^ f ∧ (k = 0 → suf = dgT n) ∧ (0 < k → dgF f k suf = dgT n)
theorem ItI.step {n k f : Nat} {suf : List UInt8} (h : ItI n k f suf) (hk : 0 < k) : ∃ f', f = f' + 1 ∧ ItI n (k / 10) f' (UInt8.ofNat (48 + k % 10) :: suf) := by
  obtain ⟨h1, h2, h3, h4⟩ := h
  cases f with
  | zero => simp at h2; omega
  | succ f =>
    refine ⟨f, rfl, by simp only [List.length_cons]; omega, ?_, fun q => ?_, fun q => ?_⟩
    · rw [Nat.pow_succ] at h2; omega
    · have := h4 hk
      unfold dgF at this
      rw [if_pos q] at this
      exact this
    · have := h4 hk
      unfold dgF at this
      rw [if_neg (by omega)] at this
      exact this
theorem Utoa93 {w : World} {n : Nat} (hn : W64 n) : Ret Tryz.prog 93 [u64c n] w (fun r w' => r = S (dgT n) ∧ Fram none' w w') := by
  have hF : Fram none' w w := Fram.refl _ _
  refine ret_of Tryz.func93 rfl Tryz.ntmps93 rfl ?_
  refine c_seq (fun K1 hK1 => ?_)
  refine c_reg ?_ -- region 0 api.go:262
  refine wl (ro_assign rfl) ?_
  refine wl_nil (x_then (hK1 _ _ ?_))
  clear hK1 K1
  refine c_seq (fun K2 hK2 => ?_)
  refine c_seq (fun K3 hK3 => ?_)
  refine c_reg ?_ -- region 1 api.go:263
  refine wl (ro_move rfl) ?_
  refine wl (ro_cmpU rfl rfl rfl) ?_
  refine wl_nil (x_then (hK3 _ _ ?_))
  clear hK3 K3
  refine wc_cond rfl (fun hc6 => ?_) (fun hc6 => ?_)
  · try simp only [decide_eq_true_eq, decide_eq_false_iff_not, Bool.not_eq_true', Bool.not_eq_false', Bool.not_eq_eq_eq_not, Bool.not_true, Bool.not_false, beq_iff_eq, bne_iff_ne, ne_eq, beq_eq_false_iff_ne, bne_eq_false_iff_eq, gt_iff_lt, ge_iff_le, Int.not_lt, Int.not_le] at hc6
    refine c_seq (fun K4 hK4 => ?_)
    refine c_reg ?_ -- region 2 api.go:264
    refine wl (ro_assign rfl) ?_
    refine wl_nil (x_then (hK4 _ _ ?_))
    clear hK4 K4
    refine c_ret (x_thenR ?_)
    refine bp_ret Tryz.results93 rfl ?_
    exact ⟨by rw [hc6]; rfl, hF⟩
  · try simp only [decide_eq_true_eq, decide_eq_false_iff_not, Bool.not_eq_true', Bool.not_eq_false', Bool.not_eq_eq_eq_not, Bool.not_true, Bool.not_false, beq_iff_eq, bne_iff_ne, ne_eq, beq_eq_false_iff_ne, bne_eq_false_iff_eq, gt_iff_lt, ge_iff_le, Int.not_lt, Int.not_le] at hc6
    refine c_skip (x_then (hK2 _ _ ?_))
    clear hK2 K2
    refine forget [(0, _)] ⟨rfl, trivial⟩ (fun e => ?_)
    refine c_seq (fun K5 hK5 => ?_)
    refine c_reg ?_ -- region 3 api.go:266
    refine wl_new (ze_274) (fun b3 w1 hbb3 hA F1 => ?_)
    have hbsb3 := Nat.le_trans hF.size hbb3
    replace hF := hF.thenDrew.thenN F1
    refine wl_nil (x_then (hK5 _ _ ?_))
    clear hK5 K5
    refine forget [(0, _), (3, _)] ⟨rfl, rfl, trivial⟩ (fun e => ?_)
    refine c_seq (fun K6 hK6 => ?_)
    refine c_reg ?_ -- region 4 api.go:267
    refine wl (ro_assign rfl) ?_
    refine wl_nil (x_then (hK6 _ _ ?_))
    clear hK6 K6
    refine forget [(0, _), (3, _), (4, _)] ⟨rfl, rfl, rfl, trivial⟩ (fun e => ?_)
    refine c_seq (fun K7 hK7 => ?_)
    refine c_block ?_
    -- loop@r5: live slots [0, 3, 4]
    refine c_loopG (fun m a' w' => ∃ k f suf l, m = k ∧ W64 k ∧ ItI n k f suf ∧ l.length = 20 ∧ l.drop (20 - suf.length) = suf.map u8c ∧ Blk w'.heap b3 l 274 ∧ Fram none' w w' ∧ ∃ e, a' = Fr 22 (upds e [(0, u64c k), (3, ptr b3), (4, i64c (20 - suf.length))]) []) n ⟨n, 20, [], _, rfl, hn, ⟨rfl, by unfold W64 at hn; omega, fun q => absurd q hc6, fun _ => rfl⟩, rfl, rfl, hA, hF, kp _ ⟨rfl, rfl, rfl, trivial⟩⟩ ?_
    clear hA hF
    rintro m a' u1 ⟨k, f, suf, l, rfl, hkw, hI, hl, hs, hA, hF, e, rfl⟩
    have hsl : suf.length ≤ 20 := by have := hI.1; omega
    refine c_seq (fun K8 hK8 => ?_)
    refine c_seq (fun K9 hK9 => ?_)
    refine c_reg ?_ -- region 5 api.go:268
    refine wl (ro_move rfl) ?_
    refine wl (ro_cmpU (a := m) (b := 0) rfl rfl rfl) ?_
    refine wl_nil (x_then (hK9 _ _ ?_))
    clear hK9 K9
    refine wc_cond rfl (fun hc8 => ?_) (fun hc8 => ?_)
    · try simp only [decide_eq_true_eq, decide_eq_false_iff_not, Bool.not_eq_true', Bool.not_eq_false', Bool.not_eq_eq_eq_not, Bool.not_true, Bool.not_false, beq_iff_eq, bne_iff_ne, ne_eq, beq_eq_false_iff_ne, bne_eq_false_iff_eq, gt_iff_lt, ge_iff_le, Int.not_lt, Int.not_le] at hc8
      obtain ⟨f', rfl, hI'⟩ := hI.step hc8
      have hf9 := hI.1
      refine c_skip (x_then (hK8 _ _ ?_))
      clear hK8 K8
      refine c_block ?_
      refine forget [(0, _), (3, _), (4, _)] ⟨rfl, rfl, rfl, trivial⟩ (fun e => ?_)
      refine c_seq (fun K10 hK10 => ?_)
      refine c_reg ?_ -- region 6 api.go:269
      refine wl (ro_move rfl) ?_
      refine wl (ro_arith (r := ((19 - suf.length : Nat) : Int)) rfl rfl (congrArg some (by omega)) (Go.IntWalk.i64_in _ (by omega))) ?_
      refine wl (ro_assign rfl) ?_
      refine wl_nil (x_then (hK10 _ _ ?_))
      clear hK10 K10
      refine forget [(0, _), (3, _), (4, _)] ⟨rfl, rfl, rfl, trivial⟩ (fun e => ?_)
      refine c_seq (fun K11 hK11 => ?_)
      refine c_reg ?_ -- region 7 api.go:270
      refine wl (ro_move rfl) ?_
      refine wl (ro_move rfl) ?_
      refine wl (ro_remU (a := m) (b := 10) rfl rfl (by omega)) ?_
      refine wl (ro_addU (a := 48) (b := m % 10) rfl rfl (by unfold W64; omega)) ?_
      refine wl (ro_toU8 (m := 48 + m % 10) rfl sc_117 in_5 (by omega)) ?_
      refine wl (ro_indexAddrA (et := 5) (k := 1) rfl rfl ar_274 (rfl) ((by omega))) ?_
      refine wl_put rfl rfl rfl sz_5 hA ((by omega)) (rfl) (fun w2 hA F2 => ?_)
      replace hF := hF.thenDrew.thenO F2 (by first | exact .inr (by omega) | exact .inl rfl | exact .inl (by assumption) | assumption)
      refine wl_nil (x_then (hK11 _ _ ?_))
      clear hK11 K11
      refine c_reg ?_ -- region 8 api.go:271
      refine wl (ro_move rfl) ?_
      refine wl (ro_quoU (a := m) (b := 10) rfl rfl (by omega) hkw) ?_
      refine wl (ro_assign rfl) ?_
      refine wl_nil (x_blk (x_then ?_))
      refine ⟨m / 10, by omega, m / 10, f', _, _, rfl, by unfold W64 at hkw ⊢; omega, hI', ?_, ?_, hA, hF, kp _ ⟨rfl, rfl, ?_, trivial⟩⟩
      · rw [List.length_set]; exact hl
      · rw [show 20 - (UInt8.ofNat (48 + m % 10) :: suf).length = 0 + (19 - suf.length) * 1 by simp only [List.length_cons]; omega, drop_set_self _ _ _ (by omega), show 0 + (19 - suf.length) * 1 + 1 = 20 - suf.length by omega, hs]
        rfl
      · show some (Value.int .i64 ((19 - suf.length : Nat) : Int)) = _
        rw [show 20 - (UInt8.ofNat (48 + m % 10) :: suf).length = 19 - suf.length by simp only [List.length_cons]; omega]
        rfl
    · try simp only [decide_eq_true_eq, decide_eq_false_iff_not, Bool.not_eq_true', Bool.not_eq_false', Bool.not_eq_eq_eq_not, Bool.not_true, Bool.not_false, beq_iff_eq, bne_iff_ne, ne_eq, beq_eq_false_iff_ne, bne_eq_false_iff_eq, gt_iff_lt, ge_iff_le, Int.not_lt, Int.not_le] at hc8
      have hm0 : m = 0 := by omega
      subst hm0
      have hsd := hI.2.2.1 rfl
      subst hsd
      have hpos := dgT_pos n
      refine c_exit (x_thenX (x_thenX (x_blkX (x_then (hK7 _ _ ?_)))))
      clear hK8 K8 hK7 K7
      refine forget [(3, _), (4, _)] ⟨rfl, rfl, trivial⟩ (fun e => ?_)
      refine c_seq (fun K12 hK12 => ?_)
      refine c_reg ?_ -- region 9 api.go:273
      refine wl (ro_move rfl) ?_
      refine wl (ro_sliceA (l := 20 - (dgT n).length) rfl rfl ar_274 rfl (by omega)) ?_
      refine wl (ro_toSo (q := 20 - (dgT n).length) (o := dgT n) (N := 20 - (20 - (dgT n).length)) (c := 20 - (20 - (dgT n).length)) (b := b3) (by show some (Value.slice (some (if 20 = 20 - (dgT n).length then _ else _)) _ _) = _; rw [if_neg (by omega)]; simp) se_70 (by kernel_rfl) st_9 hA (by omega) (fun j y hj ↦ by rw [← List.getElem?_drop, hs, List.getElem?_map, hj]; rfl)) ?_
      refine wl (ro_assign rfl) ?_
      refine wl_nil (x_then (hK12 _ _ ?_))
      clear hK12 K12
      refine c_ret ?_
      refine bp_ret Tryz.results93 rfl ?_
      exact ⟨rfl, hF⟩
theorem UtoaI {w : World} {m : Int} (h0 : 0 ≤ m) (h1 : m < 18446744073709551616) : Ret Tryz.prog 93 [.int .u64 m] w (fun r w' => r = S (dgT m.toNat) ∧ Fram none' w w') := by
  obtain ⟨k, rfl⟩ := Int.eq_ofNat_of_zero_le h0
  exact Utoa93 (n := k) (by unfold W64; omega)
theorem half_pow {X m k : Nat} (h : X = m * 2 ^ k) (he : m % 2 = 0) : X = m / 2 ^ 1 * 2 ^ (k + 1) := by
  obtain ⟨q, rfl⟩ : ∃ q, m = 2 * q := ⟨m / 2, by omega⟩
  have : 2 * q / 2 ^ 1 = q := by omega
  rw [this, h, Nat.pow_succ, Nat.mul_comm 2 q, Nat.mul_assoc, Nat.mul_comm 2]
theorem Itoa92 {w : World} {n : Int} (hn : -1000000000 ≤ n ∧ n ≤ 1000000000) : Ret Tryz.prog 92 [icv n] w (fun r w' => r = S (itT n) ∧ Fram none' w w') := by
  have hF : Fram none' w w := Fram.refl _ _
  refine ret_of Tryz.func92 rfl Tryz.ntmps92 rfl ?_
  refine c_seq (fun K1 hK1 => ?_)
  refine c_reg ?_ -- region 0 api.go:253
  refine wl (ro_assign rfl) ?_
  refine wl_nil (x_then (hK1 _ _ ?_))
  clear hK1 K1
  refine c_seq (fun K2 hK2 => ?_)
  refine c_seq (fun K3 hK3 => ?_)
  refine c_reg ?_ -- region 1 api.go:254
  refine wl (ro_move rfl) ?_
  refine wl (ro_cmp rfl rfl rfl) ?_
  refine wl_nil (x_then (hK3 _ _ ?_))
  clear hK3 K3
  refine wc_cond rfl (fun hc5 => ?_) (fun hc5 => ?_)
  · try simp only [decide_eq_true_eq, decide_eq_false_iff_not, Bool.not_eq_true', Bool.not_eq_false', Bool.not_eq_eq_eq_not, Bool.not_true, Bool.not_false, beq_iff_eq, bne_iff_ne, ne_eq, beq_eq_false_iff_ne, bne_eq_false_iff_eq, gt_iff_lt, ge_iff_le, Int.not_lt, Int.not_le] at hc5
    refine c_seq (fun K4 hK4 => ?_)
    refine c_reg ?_ -- region 2 api.go:255
    refine wl (ro_move rfl) ?_
    refine wl (ro_neg rfl (by omega)) ?_
    refine wl (ro_conv (a := -n) rfl sc_3 in_117 (Go.IntWalk.u64_in _ (by omega))) ?_
    refine wl_call rfl en_93 (UtoaI (m := -n) (by omega) (by omega)) ?_
    rintro _ w1 ⟨rfl, F1⟩
    replace hF := hF.thenDrew.thenN F1
    refine wl (ro_assign rfl) ?_
    refine wl_nil (x_then (hK4 _ _ ?_))
    clear hK4 K4
    refine forget [(3, _)] ⟨rfl, trivial⟩ (fun e => ?_)
    refine c_seq (fun K5 hK5 => ?_)
    refine c_reg ?_ -- region 3 api.go:256
    refine wl (ro_move rfl) ?_
    refine wl (ro_catS (l := [45]) rfl rfl (by have := dgF_len 20 (-n).toNat []; unfold dgT; simp at this ⊢; omega)) ?_
    refine wl (ro_assign rfl) ?_
    refine wl_nil (x_then (hK5 _ _ ?_))
    clear hK5 K5
    refine c_ret (x_thenR ?_)
    refine bp_ret Tryz.results92 rfl ?_
    exact ⟨by unfold itT; rw [if_pos hc5]; rfl, hF⟩
  · try simp only [decide_eq_true_eq, decide_eq_false_iff_not, Bool.not_eq_true', Bool.not_eq_false', Bool.not_eq_eq_eq_not, Bool.not_true, Bool.not_false, beq_iff_eq, bne_iff_ne, ne_eq, beq_eq_false_iff_ne, bne_eq_false_iff_eq, gt_iff_lt, ge_iff_le, Int.not_lt, Int.not_le] at hc5
    refine c_skip (x_then (hK2 _ _ ?_))
    clear hK2 K2
    refine forget [(0, _)] ⟨rfl, trivial⟩ (fun e => ?_)
    refine c_seq (fun K6 hK6 => ?_)
    refine c_reg ?_ -- region 4 api.go:258
    refine wl (ro_move rfl) ?_
    refine wl (ro_conv (a := n) rfl sc_3 in_117 (Go.IntWalk.u64_in _ (by omega))) ?_
    refine wl_call rfl en_93 (UtoaI (m := n) (by omega) (by omega)) ?_
    rintro _ w2 ⟨rfl, F2⟩
    replace hF := hF.thenDrew.thenN F2
    refine wl (ro_assign rfl) ?_
    refine wl_nil (x_then (hK6 _ _ ?_))
    clear hK6 K6
    refine c_ret ?_
    refine bp_ret Tryz.results92 rfl ?_
    exact ⟨by unfold itT; rw [if_neg (by omega)], hF⟩
theorem digit155 {w : World} {c : UInt8} : Ret Tryz.prog 155 [u8c c] w (fun v w' => v = .bool (isDg c) ∧ w' = w) := by
  have h1 : (48 ≤ c) ↔ (48 : Int) ≤ c.toNat := by rw [UInt8.le_iff_toNat_le]; show 48 ≤ c.toNat ↔ _; omega
  have h2 : (c ≤ 57) ↔ (c.toNat : Int) ≤ 57 := by rw [UInt8.le_iff_toNat_le]; show c.toNat ≤ 57 ↔ _; omega
  refine ret_of Tryz.func155 rfl Tryz.ntmps155 rfl ?_
  refine c_seq (fun K1 hK1 => ?_)
  refine c_reg ?_ -- region 0 numm.go:411
  refine wl (ro_assign rfl) ?_
  refine wl_nil (x_then (hK1 _ _ ?_))
  clear hK1 K1
  refine forget [(0, _)] ⟨rfl, trivial⟩ (fun e => ?_)
  refine c_seq (fun K2 hK2 => ?_)
  refine c_reg ?_ -- region 1 numm.go:411
  refine wl (ro_move rfl) ?_
  refine wl (ro_cmp rfl rfl rfl) ?_
  refine wl_fork rfl (fun hg5 => ?_) (fun hg5 => ?_)
  · try simp only [decide_eq_true_eq, decide_eq_false_iff_not, Bool.not_eq_true', Bool.not_eq_false', Bool.not_eq_eq_eq_not, Bool.not_true, Bool.not_false, beq_iff_eq, bne_iff_ne, ne_eq, beq_eq_false_iff_ne, bne_eq_false_iff_eq, gt_iff_lt, ge_iff_le, Int.not_lt, Int.not_le] at hg5
    refine wlg_yes rfl (ro_move rfl) ?_
    refine wlg_yes rfl (ro_cmp rfl rfl rfl) ?_
    refine wl (ro_pick rfl rfl rfl) ?_
    refine wl (ro_assign rfl) ?_
    refine wl_nil (x_then (hK2 _ _ ?_))
    clear hK2 K2
    refine c_ret ?_
    refine bp_ret Tryz.results155 rfl ?_
    refine ⟨congrArg Value.bool ?_, rfl⟩
    rw [Bool.eq_iff_iff]
    unfold isDg
    simp only [Bool.and_eq_true, decide_eq_true_eq, h1, h2, Bool.false_eq_true]
    omega
  · try simp only [decide_eq_true_eq, decide_eq_false_iff_not, Bool.not_eq_true', Bool.not_eq_false', Bool.not_eq_eq_eq_not, Bool.not_true, Bool.not_false, beq_iff_eq, bne_iff_ne, ne_eq, beq_eq_false_iff_ne, bne_eq_false_iff_eq, gt_iff_lt, ge_iff_le, Int.not_lt, Int.not_le] at hg5
    refine wlg_no rfl ?_
    refine wlg_no rfl ?_
    refine wl (ro_pick rfl rfl rfl) ?_
    refine wl (ro_assign rfl) ?_
    refine wl_nil (x_then (hK2 _ _ ?_))
    clear hK2 K2
    refine c_ret ?_
    refine bp_ret Tryz.results155 rfl ?_
    refine ⟨congrArg Value.bool ?_, rfl⟩
    show false = isDg c
    symm
    unfold isDg
    rw [show decide (48 ≤ c) = false by rw [decide_eq_false_iff_not, h1]; omega]
    rfl

theorem Format170 {w : World} {p : Value} {x : Nat} (hx : W64 x) : Ret Tryz.prog 170 [p, u64c x] w (fun r w' => r = S (fmtN x) ∧ Fram none' w w') := by
  have hF : Fram none' w w := Fram.refl _ _
  have hmx := pm_lt x
  have hlen := fmtN_len hx
  refine ret_of Tryz.func170 rfl Tryz.ntmps170 rfl ?_
  refine c_seq (fun K1 hK1 => ?_)
  refine c_reg ?_ -- region 0 numm.go:381
  refine wl (ro_assign rfl) ?_
  refine wl_nil (x_then (hK1 _ _ ?_))
  clear hK1 K1
  refine c_seq (fun K2 hK2 => ?_)
  refine c_seq (fun K3 hK3 => ?_)
  refine c_reg ?_ -- region 1 numm.go:382
  refine wl (ro_move rfl) ?_
  refine wl_call rfl en_169 (isNaN169 hx) ?_
  rintro _ u0 ⟨rfl, hw0⟩
  rw [hw0]
  clear hw0 u0
  refine wl_nil (x_then (hK3 _ _ ?_))
  clear hK3 K3
  refine wc_cond rfl (fun hc12 => ?_) (fun hc12 => ?_)
  · try simp only [decide_eq_true_eq, decide_eq_false_iff_not, Bool.not_eq_true', Bool.not_eq_false', Bool.not_eq_eq_eq_not, Bool.not_true, Bool.not_false, beq_iff_eq, bne_iff_ne, ne_eq, beq_eq_false_iff_ne, bne_eq_false_iff_eq, gt_iff_lt, ge_iff_le, Int.not_lt, Int.not_le] at hc12
    refine c_seq (fun K4 hK4 => ?_)
    refine c_reg ?_ -- region 2 numm.go:383
    refine wl (ro_assign rfl) ?_
    refine wl_nil (x_then (hK4 _ _ ?_))
    clear hK4 K4
    refine c_ret (x_thenR ?_)
    refine bp_ret Tryz.results170 rfl ?_
    exact ⟨by unfold fmtN; rw [if_pos hc12]; rfl, hF⟩
  · try simp only [decide_eq_true_eq, decide_eq_false_iff_not, Bool.not_eq_true', Bool.not_eq_false', Bool.not_eq_eq_eq_not, Bool.not_true, Bool.not_false, beq_iff_eq, bne_iff_ne, ne_eq, beq_eq_false_iff_ne, bne_eq_false_iff_eq, gt_iff_lt, ge_iff_le, Int.not_lt, Int.not_le] at hc12
    have hna : rgW x ≤ infB := by unfold isNaNW at hc12; simp at hc12; omega
    have hfm : fmtN x = (if ngW x then [45] else []) ++ (if rgW x = infB then [105, 110, 102] else if rgW x = 0 then [48] else if 0 ≤ odE x ∧ odE x < 53 ∧ odP x * 2 ^ (odE x).toNat < 9007199254740992 then dgT (odP x * 2 ^ (odE x).toNat) else dgT (odP x) ++ (112 :: itT (odE x))) := by
      conv => lhs; unfold fmtN
      rw [if_neg (by rw [hc12]; simp)]
    refine c_skip (x_then (hK2 _ _ ?_))
    clear hK2 K2
    refine forget [(1, _)] ⟨rfl, trivial⟩ (fun e => ?_)
    refine c_seq (fun K5 hK5 => ?_)
    refine c_reg ?_ -- region 3 numm.go:385
    refine wl (ro_assign rfl) ?_
    refine wl_nil (x_then (hK5 _ _ ?_))
    clear hK5 K5
    refine c_mid (fun a' w' => w' = w ∧ ∃ e, a' = Fr 76 (upds e [(1, u64c x), (5, S (if ngW x then [45] else []))]) []) ?_ ?_
    · skip
      refine c_seq (fun K6 hK6 => ?_)
      refine c_reg ?_ -- region 4 numm.go:386
      refine wl (ro_move rfl) ?_
      refine wl (ro_sg rfl (by assumption)) ?_
      refine wl (ro_cmpU rfl rfl rfl) ?_
      refine wl_nil (x_then (hK6 _ _ ?_))
      clear hK6 K6
      refine wc_cond rfl (fun hc15 => ?_) (fun hc15 => ?_)
      · try simp only [decide_eq_true_eq, decide_eq_false_iff_not, Bool.not_eq_true', Bool.not_eq_false', Bool.not_eq_eq_eq_not, Bool.not_true, Bool.not_false, beq_iff_eq, bne_iff_ne, ne_eq, beq_eq_false_iff_ne, bne_eq_false_iff_eq, gt_iff_lt, ge_iff_le, Int.not_lt, Int.not_le] at hc15
        refine c_reg ?_ -- region 5 numm.go:387
        refine wl (ro_assign rfl) ?_
        refine wl_nil (x_then ?_)
        exact ⟨rfl, kp _ ⟨rfl, by rw [if_pos (sgB_ne.1 hc15)]; rfl, trivial⟩⟩
      · try simp only [decide_eq_true_eq, decide_eq_false_iff_not, Bool.not_eq_true', Bool.not_eq_false', Bool.not_eq_eq_eq_not, Bool.not_true, Bool.not_false, beq_iff_eq, bne_iff_ne, ne_eq, beq_eq_false_iff_ne, bne_eq_false_iff_eq, gt_iff_lt, ge_iff_le, Int.not_lt, Int.not_le] at hc15
        refine c_skip (x_then ?_)
        exact ⟨rfl, kp _ ⟨rfl, by rw [if_neg (fun h => hc15 (sgB_ne.2 h))]; rfl, trivial⟩⟩
    rintro a' w' ⟨hw, e, rfl⟩
    rw [hw]
    clear hw w'
    generalize hsg : (if ngW x then [45] else [] : List UInt8) = sg at *
    have hsl : sg.length ≤ 1 := by rw [← hsg]; split <;> simp
    refine c_seq (fun K7 hK7 => ?_)
    refine c_seq (fun K8 hK8 => ?_)
    refine c_reg ?_ -- region 6 numm.go:389
    refine wl (ro_move rfl) ?_
    refine wl_call rfl en_164 (isInf164 hx) ?_
    rintro _ u0 ⟨rfl, hw0⟩
    rw [hw0]
    clear hw0 u0
    refine wl_nil (x_then (hK8 _ _ ?_))
    clear hK8 K8
    refine wc_cond rfl (fun hc17 => ?_) (fun hc17 => ?_)
    · try simp only [decide_eq_true_eq, decide_eq_false_iff_not, Bool.not_eq_true', Bool.not_eq_false', Bool.not_eq_eq_eq_not, Bool.not_true, Bool.not_false, beq_iff_eq, bne_iff_ne, ne_eq, beq_eq_false_iff_ne, bne_eq_false_iff_eq, gt_iff_lt, ge_iff_le, Int.not_lt, Int.not_le] at hc17
      refine c_seq (fun K9 hK9 => ?_)
      refine c_reg ?_ -- region 7 numm.go:390
      refine wl (ro_move rfl) ?_
      refine wl (ro_catS (m := [105, 110, 102]) rfl rfl (by simp; omega)) ?_
      refine wl (ro_assign rfl) ?_
      refine wl_nil (x_then (hK9 _ _ ?_))
      clear hK9 K9
      refine c_ret (x_thenR ?_)
      refine bp_ret Tryz.results170 rfl ?_
      exact ⟨by rw [hfm, if_pos hc17], hF⟩
    · try simp only [decide_eq_true_eq, decide_eq_false_iff_not, Bool.not_eq_true', Bool.not_eq_false', Bool.not_eq_eq_eq_not, Bool.not_true, Bool.not_false, beq_iff_eq, bne_iff_ne, ne_eq, beq_eq_false_iff_ne, bne_eq_false_iff_eq, gt_iff_lt, ge_iff_le, Int.not_lt, Int.not_le] at hc17
      refine c_skip (x_then (hK7 _ _ ?_))
      clear hK7 K7
      refine c_seq (fun K10 hK10 => ?_)
      refine c_seq (fun K11 hK11 => ?_)
      refine c_reg ?_ -- region 8 numm.go:392
      refine wl (ro_move rfl) ?_
      refine wl_call rfl en_165 (isZero165 hx) ?_
      rintro _ u0 ⟨rfl, hw0⟩
      rw [hw0]
      clear hw0 u0
      refine wl_nil (x_then (hK11 _ _ ?_))
      clear hK11 K11
      refine wc_cond rfl (fun hc21 => ?_) (fun hc21 => ?_)
      · try simp only [decide_eq_true_eq, decide_eq_false_iff_not, Bool.not_eq_true', Bool.not_eq_false', Bool.not_eq_eq_eq_not, Bool.not_true, Bool.not_false, beq_iff_eq, bne_iff_ne, ne_eq, beq_eq_false_iff_ne, bne_eq_false_iff_eq, gt_iff_lt, ge_iff_le, Int.not_lt, Int.not_le] at hc21
        refine c_seq (fun K12 hK12 => ?_)
        refine c_reg ?_ -- region 9 numm.go:393
        refine wl (ro_move rfl) ?_
        refine wl (ro_catS (m := [48]) rfl rfl (by simp; omega)) ?_
        refine wl (ro_assign rfl) ?_
        refine wl_nil (x_then (hK12 _ _ ?_))
        clear hK12 K12
        refine c_ret (x_thenR ?_)
        refine bp_ret Tryz.results170 rfl ?_
        exact ⟨by rw [hfm, if_neg hc17, if_pos hc21], hF⟩
      · try simp only [decide_eq_true_eq, decide_eq_false_iff_not, Bool.not_eq_true', Bool.not_eq_false', Bool.not_eq_eq_eq_not, Bool.not_true, Bool.not_false, beq_iff_eq, bne_iff_ne, ne_eq, beq_eq_false_iff_ne, bne_eq_false_iff_eq, gt_iff_lt, ge_iff_le, Int.not_lt, Int.not_le] at hc21
        have hpx := pe_ge x
        have hlx := pe_le (x := x) (by change ¬ rgW x = infB at hc17; omega)
        have hmz : pmW x ≠ 0 := fun c => hc21 (pm_zero.1 c)
        refine c_skip (x_then (hK10 _ _ ?_))
        clear hK10 K10
        refine forget [(1, _), (5, _)] ⟨rfl, rfl, trivial⟩ (fun e => ?_)
        refine c_seq (fun K13 hK13 => ?_)
        refine c_reg ?_ -- region 10 numm.go:395
        refine wl (ro_move rfl) ?_
        refine wl_call rfl en_166 (parts166 hx) ?_
        rintro _ u0 ⟨rfl, hw0⟩
        rw [hw0]
        clear hw0 u0
        refine wl (ro_move rfl) ?_
        refine wl (ro_extract rfl rfl) ?_
        refine wl (ro_extract rfl rfl) ?_
        refine wl (ro_assign rfl) ?_
        refine wl (ro_assign rfl) ?_
        refine wl_nil (x_then (hK13 _ _ ?_))
        clear hK13 K13
        refine forget [(5, _), (6, _), (7, _)] ⟨rfl, rfl, rfl, trivial⟩ (fun e => ?_)
        refine c_seq (fun K14 hK14 => ?_)
        refine c_block ?_
        -- loop@r11: live slots [5, 6, 7]
        refine c_loopG (fun m a' w' => ∃ k : Nat, pmW x = m * 2 ^ k ∧ 0 < m ∧ k ≤ 52 ∧ w' = w ∧ ∃ e, a' = Fr 76 (upds e [(5, S sg), (6, u64c m), (7, icv (peW x + k))]) []) (pmW x) ⟨0, by simp, by omega, by omega, rfl, kp _ ⟨rfl, rfl, by rw [show peW x + ((0 : Nat) : Int) = peW x by omega]; rfl, trivial⟩⟩ ?_
        rintro m a' w' ⟨k, hmk, hm0, hk, hw, e, rfl⟩
        rw [hw]
        clear hw w'
        have hmle : m ≤ pmW x := by rw [hmk]; exact Nat.le_mul_of_pos_right _ (Nat.two_pow_pos _)
        refine c_seq (fun K15 hK15 => ?_)
        refine c_seq (fun K16 hK16 => ?_)
        refine c_reg ?_ -- region 11 numm.go:396
        refine wl (ro_move rfl) ?_
        refine wl (ro_bit0 (a := m) rfl (by unfold W64; omega)) ?_
        refine wl (ro_cmpU rfl rfl rfl) ?_
        refine wl_nil (x_then (hK16 _ _ ?_))
        clear hK16 K16
        refine wc_cond rfl (fun hc31 => ?_) (fun hc31 => ?_)
        · try simp only [decide_eq_true_eq, decide_eq_false_iff_not, Bool.not_eq_true', Bool.not_eq_false', Bool.not_eq_eq_eq_not, Bool.not_true, Bool.not_false, beq_iff_eq, bne_iff_ne, ne_eq, beq_eq_false_iff_ne, bne_eq_false_iff_eq, gt_iff_lt, ge_iff_le, Int.not_lt, Int.not_le] at hc31
          refine c_skip (x_then (hK15 _ _ ?_))
          clear hK15 K15
          refine c_block ?_
          refine forget [(5, _), (6, _), (7, _)] ⟨rfl, rfl, rfl, trivial⟩ (fun e => ?_)
          refine c_seq (fun K17 hK17 => ?_)
          refine c_reg ?_ -- region 12 numm.go:397
          refine wl (ro_move rfl) ?_
          refine wl (ro_shrU (a := m) (b := 1) rfl rfl (by decide)) ?_
          refine wl (ro_assign rfl) ?_
          refine wl_nil (x_then (hK17 _ _ ?_))
          clear hK17 K17
          refine c_reg ?_ -- region 13 numm.go:398
          refine wl (ro_move rfl) ?_
          refine wl (ro_arith (k := .i64) (a := peW x + k) rfl rfl rfl (Go.IntWalk.i64_in _ (by omega))) ?_
          refine wl (ro_assign rfl) ?_
          refine wl_nil (x_blk (x_then ?_))
          have hmk' := half_pow hmk hc31
          refine ⟨m / 2 ^ 1, by omega, k + 1, hmk', by omega, ?_, rfl, kp _ ⟨rfl, rfl, by rw [show peW x + ((k + 1 : Nat) : Int) = peW x + k + 1 by omega]; rfl, trivial⟩⟩
          rcases Nat.lt_or_ge k 52 with h | h
          · omega
          · exfalso
            have e52 : k = 52 := by omega
            subst e52
            have := Nat.mul_le_mul_right (2 ^ 52) (show 2 ≤ m by omega)
            omega
        · try simp only [decide_eq_true_eq, decide_eq_false_iff_not, Bool.not_eq_true', Bool.not_eq_false', Bool.not_eq_eq_eq_not, Bool.not_true, Bool.not_false, beq_iff_eq, bne_iff_ne, ne_eq, beq_eq_false_iff_ne, bne_eq_false_iff_eq, gt_iff_lt, ge_iff_le, Int.not_lt, Int.not_le] at hc31
          obtain ⟨ho, hoe⟩ := od_uniq hc21 hmk (by omega)
          rw [← hoe]
          subst ho
          have hE1 : -1074 ≤ odE x := by omega
          have hE2 : odE x ≤ 1100 := by omega
          have hfm2 := hfm
          rw [if_neg hc17, if_neg hc21] at hfm2
          clear hfm
          have hol : (dgT (odP x)).length ≤ 16 := dgT_len (k := 15) (by omega) (by omega)
          have hil : (itT (odE x)).length ≤ 21 := by
            unfold itT
            split
            · have := dgF_len 20 (-odE x).toNat []; unfold dgT; simp at this ⊢; omega
            · have := dgF_len 20 (odE x).toNat []; unfold dgT; simp at this ⊢; omega
          refine c_exit (x_thenX (x_thenX (x_blkX (x_then (hK14 _ _ ?_)))))
          clear hK15 K15 hK14 K14
          refine c_mid (fun a' w' => w' = w ∧ fmtN x = sg ++ (dgT (odP x) ++ (112 :: itT (odE x))) ∧ ∃ e, a' = Fr 76 (upds e [(5, S sg), (6, u64c (odP x)), (7, icv (odE x))]) []) ?_ ?_
          · skip
            refine c_seq (fun K18 hK18 => ?_)
            refine c_reg ?_ -- region 14 numm.go:400
            refine wl (ro_move rfl) ?_
            refine wl (ro_cmp rfl rfl rfl) ?_
            refine wl_fork rfl (fun hg38 => ?_) (fun hg38 => ?_)
            · try simp only [decide_eq_true_eq, decide_eq_false_iff_not, Bool.not_eq_true', Bool.not_eq_false', Bool.not_eq_eq_eq_not, Bool.not_true, Bool.not_false, beq_iff_eq, bne_iff_ne, ne_eq, beq_eq_false_iff_ne, bne_eq_false_iff_eq, gt_iff_lt, ge_iff_le, Int.not_lt, Int.not_le] at hg38
              refine wlg_yes rfl (ro_move rfl) ?_
              refine wlg_yes rfl (ro_cmp rfl rfl rfl) ?_
              refine wl (ro_pick rfl rfl rfl) ?_
              refine wl_nil (x_then (hK18 _ _ ?_))
              clear hK18 K18
              refine wc_cond rfl (fun hc41 => ?_) (fun hc41 => ?_)
              · try simp only [decide_eq_true_eq, decide_eq_false_iff_not, Bool.not_eq_true', Bool.not_eq_false', Bool.not_eq_eq_eq_not, Bool.not_true, Bool.not_false, beq_iff_eq, bne_iff_ne, ne_eq, beq_eq_false_iff_ne, bne_eq_false_iff_eq, gt_iff_lt, ge_iff_le, Int.not_lt, Int.not_le] at hc41
                obtain ⟨j, hj⟩ : ∃ j : Nat, odE x = (j : Int) := ⟨(odE x).toNat, by omega⟩
                have hj53 : j < 53 := by omega
                rw [hj]
                rw [hj, Int.toNat_natCast] at hfm2
                have hpj := Nat.two_pow_pos j
                refine c_seq (fun K19 hK19 => ?_)
                refine c_reg ?_ -- region 15 numm.go:401
                refine wl (ro_move rfl) ?_
                refine wl (ro_move rfl) ?_
                refine wl (ro_conv (a := (j : Int)) rfl sc_3 in_206 (Go.IntWalk.u64_in _ (by omega))) ?_
                refine wl (ro_shlU (a := odP x) (b := j) rfl rfl (by omega)) ?_
                refine wl (ro_move rfl) ?_
                refine wl (ro_conv (a := (j : Int)) rfl sc_3 in_206 (Go.IntWalk.u64_in _ (by omega))) ?_
                refine wl (ro_shrU (a := odP x * 2 ^ j % 2 ^ 64) (b := j) rfl rfl (by omega)) ?_
                refine wl (ro_move rfl) ?_
                refine wl (ro_cmpU rfl rfl rfl) ?_
                refine wl_fork rfl (fun hg51 => ?_) (fun hg51 => ?_)
                · try simp only [decide_eq_true_eq, decide_eq_false_iff_not, Bool.not_eq_true', Bool.not_eq_false', Bool.not_eq_eq_eq_not, Bool.not_true, Bool.not_false, beq_iff_eq, bne_iff_ne, ne_eq, beq_eq_false_iff_ne, bne_eq_false_iff_eq, gt_iff_lt, ge_iff_le, Int.not_lt, Int.not_le] at hg51
                  refine wlg_yes rfl (ro_move rfl) ?_
                  refine wlg_yes rfl (ro_move rfl) ?_
                  refine wlg_yes rfl (ro_conv (a := (j : Int)) rfl sc_3 in_206 (Go.IntWalk.u64_in _ (by omega))) ?_
                  refine wlg_yes rfl (ro_shlU (a := odP x) (b := j) rfl rfl (by omega)) ?_
                  refine wlg_yes rfl (ro_cmpU (a := odP x * 2 ^ j % 2 ^ 64) (b := 9007199254740992) rfl rfl rfl) ?_
                  refine wl (ro_pick rfl rfl rfl) ?_
                  refine wl_nil (x_then (hK19 _ _ ?_))
                  clear hK19 K19
                  refine wc_cond rfl (fun hc57 => ?_) (fun hc57 => ?_)
                  · try simp only [decide_eq_true_eq, decide_eq_false_iff_not, Bool.not_eq_true', Bool.not_eq_false', Bool.not_eq_eq_eq_not, Bool.not_true, Bool.not_false, beq_iff_eq, bne_iff_ne, ne_eq, beq_eq_false_iff_ne, bne_eq_false_iff_eq, gt_iff_lt, ge_iff_le, Int.not_lt, Int.not_le] at hc57
                    have hov : odP x * 2 ^ j < 2 ^ 64 := by
                      rcases Nat.lt_or_ge (odP x * 2 ^ j) (2 ^ 64) with h | h
                      · exact h
                      · exfalso
                        have h64 : 2 ^ 64 = 2 ^ (64 - j) * 2 ^ j := by rw [← Nat.pow_add]; congr 1; omega
                        have hd : odP x * 2 ^ j % 2 ^ 64 / 2 ^ j = odP x % 2 ^ (64 - j) := by
                          rw [h64, Nat.mul_mod_mul_right, Nat.mul_div_cancel _ hpj]
                        rw [hd] at hg51
                        have hlt := Nat.mod_lt (odP x) (Nat.two_pow_pos (64 - j))
                        rw [hg51] at hlt
                        have := Nat.mul_lt_mul_of_pos_right hlt hpj
                        rw [← h64] at this
                        omega
                    rw [Nat.mod_eq_of_lt hov] at hc57
                    have hdl : (dgT (odP x * 2 ^ j)).length ≤ 16 := dgT_len (k := 15) (by omega) (by omega)
                    refine c_seq (fun K20 hK20 => ?_)
                    refine c_reg ?_ -- region 16 numm.go:402
                    refine wl (ro_move rfl) ?_
                    refine wl (ro_move rfl) ?_
                    refine wl (ro_conv (a := (j : Int)) rfl sc_3 in_206 (Go.IntWalk.u64_in _ (by omega))) ?_
                    refine wl (ro_shlX (a := odP x) (b := j) rfl rfl (by omega) hov) ?_
                    refine wl_call rfl en_93 (Utoa93 (n := odP x * 2 ^ j) hov) ?_
                    rintro _ w1 ⟨rfl, F1⟩
                    replace hF := hF.thenDrew.thenN F1
                    refine wl (ro_assign rfl) ?_
                    refine wl_nil (x_then (hK20 _ _ ?_))
                    clear hK20 K20
                    refine forget [(5, _), (8, _)] ⟨rfl, rfl, trivial⟩ (fun e => ?_)
                    refine c_seq (fun K21 hK21 => ?_)
                    refine c_reg ?_ -- region 17 numm.go:403
                    refine wl (ro_move rfl) ?_
                    refine wl (ro_move rfl) ?_
                    refine wl (ro_catS (m := dgT (odP x * 2 ^ j)) rfl rfl (by omega)) ?_
                    refine wl (ro_assign rfl) ?_
                    refine wl_nil (x_then (hK21 _ _ ?_))
                    clear hK21 K21
                    refine c_ret (x_thenR ?_)
                    refine bp_ret Tryz.results170 rfl ?_
                    exact ⟨by rw [hfm2, if_pos ⟨by omega, by omega, hc57⟩], hF⟩
                  · try simp only [decide_eq_true_eq, decide_eq_false_iff_not, Bool.not_eq_true', Bool.not_eq_false', Bool.not_eq_eq_eq_not, Bool.not_true, Bool.not_false, beq_iff_eq, bne_iff_ne, ne_eq, beq_eq_false_iff_ne, bne_eq_false_iff_eq, gt_iff_lt, ge_iff_le, Int.not_lt, Int.not_le] at hc57
                    refine c_skip (x_then ?_)
                    refine ⟨rfl, ?_, kp _ ⟨rfl, rfl, rfl, trivial⟩⟩
                    rw [hfm2, if_neg ?_]
                    rintro ⟨_, _, h3⟩
                    rw [Nat.mod_eq_of_lt (by omega)] at hc57
                    omega
                · try simp only [decide_eq_true_eq, decide_eq_false_iff_not, Bool.not_eq_true', Bool.not_eq_false', Bool.not_eq_eq_eq_not, Bool.not_true, Bool.not_false, beq_iff_eq, bne_iff_ne, ne_eq, beq_eq_false_iff_ne, bne_eq_false_iff_eq, gt_iff_lt, ge_iff_le, Int.not_lt, Int.not_le] at hg51
                  refine wlg_no rfl ?_
                  refine wlg_no rfl ?_
                  refine wlg_no rfl ?_
                  refine wlg_no rfl ?_
                  refine wlg_no rfl ?_
                  refine wl (ro_pick rfl rfl rfl) ?_
                  refine wl_nil (x_then (hK19 _ _ ?_))
                  clear hK19 K19
                  refine wc_condF rfl ?_
                  refine c_skip (x_then ?_)
                  refine ⟨rfl, ?_, kp _ ⟨rfl, rfl, rfl, trivial⟩⟩
                  rw [hfm2, if_neg ?_]
                  rintro ⟨_, _, h3⟩
                  rw [Nat.mod_eq_of_lt (by omega), Nat.mul_div_cancel _ hpj] at hg51
                  exact hg51 rfl
              · try simp only [decide_eq_true_eq, decide_eq_false_iff_not, Bool.not_eq_true', Bool.not_eq_false', Bool.not_eq_eq_eq_not, Bool.not_true, Bool.not_false, beq_iff_eq, bne_iff_ne, ne_eq, beq_eq_false_iff_ne, bne_eq_false_iff_eq, gt_iff_lt, ge_iff_le, Int.not_lt, Int.not_le] at hc41
                refine c_skip (x_then ?_)
                refine ⟨rfl, ?_, kp _ ⟨rfl, rfl, rfl, trivial⟩⟩
                rw [hfm2, if_neg (by omega)]
            · try simp only [decide_eq_true_eq, decide_eq_false_iff_not, Bool.not_eq_true', Bool.not_eq_false', Bool.not_eq_eq_eq_not, Bool.not_true, Bool.not_false, beq_iff_eq, bne_iff_ne, ne_eq, beq_eq_false_iff_ne, bne_eq_false_iff_eq, gt_iff_lt, ge_iff_le, Int.not_lt, Int.not_le] at hg38
              refine wlg_no rfl ?_
              refine wlg_no rfl ?_
              refine wl (ro_pick rfl rfl rfl) ?_
              refine wl_nil (x_then (hK18 _ _ ?_))
              clear hK18 K18
              refine wc_condF rfl ?_
              refine c_skip (x_then ?_)
              refine ⟨rfl, ?_, kp _ ⟨rfl, rfl, rfl, trivial⟩⟩
              rw [hfm2, if_neg (by omega)]
          rintro a' w' ⟨hw, hfm3, e, rfl⟩
          rw [hw]
          clear hw w'
          refine c_seq (fun K22 hK22 => ?_)
          refine c_reg ?_ -- region 18 numm.go:406
          refine wl (ro_move rfl) ?_
          refine wl_call rfl en_93 (Utoa93 (n := odP x) (by unfold W64; omega)) ?_
          rintro _ w2 ⟨rfl, F2⟩
          replace hF := hF.thenDrew.thenN F2
          refine wl (ro_assign rfl) ?_
          refine wl_nil (x_then (hK22 _ _ ?_))
          clear hK22 K22
          refine forget [(5, _), (7, _), (9, _)] ⟨rfl, rfl, rfl, trivial⟩ (fun e => ?_)
          refine c_seq (fun K23 hK23 => ?_)
          refine c_reg ?_ -- region 19 numm.go:407
          refine wl (ro_move rfl) ?_
          refine wl_call rfl en_92 (Itoa92 (n := odE x) (by omega)) ?_
          rintro _ w3 ⟨rfl, F3⟩
          replace hF := hF.thenDrew.thenN F3
          refine wl (ro_assign rfl) ?_
          refine wl_nil (x_then (hK23 _ _ ?_))
          clear hK23 K23
          refine forget [(5, _), (9, _), (10, _)] ⟨rfl, rfl, rfl, trivial⟩ (fun e => ?_)
          refine c_seq (fun K24 hK24 => ?_)
          refine c_reg ?_ -- region 20 numm.go:408
          refine wl (ro_move rfl) ?_
          refine wl (ro_move rfl) ?_
          refine wl (ro_catS (m := dgT (odP x)) rfl rfl (by omega)) ?_
          refine wl (ro_catS (l := sg ++ dgT (odP x)) (m := [112]) rfl rfl (by simp only [List.length_append, List.length_singleton]; omega)) ?_
          refine wl (ro_move rfl) ?_
          refine wl (ro_catS (l := sg ++ dgT (odP x) ++ [112]) (m := itT (odE x)) rfl rfl (by simp only [List.length_append, List.length_singleton]; omega)) ?_
          refine wl (ro_assign rfl) ?_
          refine wl_nil (x_then (hK24 _ _ ?_))
          clear hK24 K24
          refine c_ret ?_
          refine bp_ret Tryz.results170 rfl ?_
          exact ⟨by rw [hfm3]; simp only [List.append_assoc]; rfl, hF⟩
end Go.Proofs.Qxb6500568aGreatDoor
