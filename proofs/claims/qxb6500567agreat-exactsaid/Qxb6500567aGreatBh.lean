import Derived.Test.Qxb6500567aGreatBg
/- The real parser: classes. -/
namespace Go.Proofs.Qxb6500567aGreat
set_option linter.unusedVariables false
set_option linter.unusedSimpArgs false

/-- What class does. -/
def classX (p : List UInt8) (σ : RS) : RRes := match cls p σ.i with
  | .error e => .error e
  | .ok (Z, j) => leafX { σ with i := j } (.set Z)

def clsI (p : List UInt8) (i : Nat) : Nat := if p[i + 1]? = some 94 then i + 2 else i + 1
def clsN (p : List UInt8) (i : Nat) : Bool := decide (p[i + 1]? = some 94)
def clsR (p : List UInt8) (i : Nat) : Except Er (Cset × Nat) := clsF p i (p.length + 1) (clsI p i) 0

theorem cls_eq (p : List UInt8) (i : Nat) : cls p i = match clsR p i with
    | .error e => .error e
    | .ok (Z, j) => .ok (if clsN p i then cpl Z else Z, j) := by
  unfold cls clsR clsI clsN
  by_cases h : p[i + 1]? = some 94
  · simp only [h, if_true, decide_true]
    cases clsF p i (p.length + 1) (i + 2) 0 with
    | error e => rfl
    | ok r => rfl
  · simp only [h, if_false, decide_false, Bool.false_eq_true]
    cases clsF p i (p.length + 1) (i + 1) 0 with
    | error e => rfl
    | ok r => rfl

theorem clsR_er {p : List UInt8} {i : Nat} (hi : i < p.length) {e : Er} (h : clsR p i = .error e) : e.1 ≠ 0 := by
  unfold clsR at h
  have hI : clsI p i ≤ p.length := by
    unfold clsI
    split
    · rename_i h; have := get_lt h; omega
    · omega
  exact (clsF_ok (p := p) (a := i) (p.length + 1) (clsI p i) 0 (Nat.two_pow_pos 256) hI).2 (by unfold clsI; split <;> omega) e h

set_option maxHeartbeats 4000000 in
theorem class125 {w : World} {xb : Nat} {f : Nat → Value} {p : List UInt8} {σ : RS} {T : List RE} (hB : FB w.heap xb 325 f 96) (V : PV f p σ T) (hi : σ.i < p.length) :
    Ret Tryz.prog 125 [ptr xb] w (fun v w' => v = .tuple #[] ∧ RP xb p (classX p σ) w' ∧ Fram (one xb) w w') := by
  have hF : Fram (one xb) w w := Fram.refl _ _
  have hpl := V.pl
  have V1 : PV (pt f 1 (i64c (σ.i + 1))) p { σ with i := σ.i + 1 } T := V.setI (i := σ.i + 1) (by omega)
  have hXe : ∀ e, clsR p σ.i = .error e → classX p σ = .error e := by intro e h; unfold classX; rw [cls_eq, h]
  have hXo : ∀ Z j, clsR p σ.i = .ok (Z, j) → classX p σ = leafX { σ with i := j } (.set (if clsN p σ.i then cpl Z else Z)) := by intro Z j h; unfold classX; rw [cls_eq, h]
  have hRe : ∀ e, clsR p σ.i = .error e → e.1 ≠ 0 := fun e h => clsR_er hi h
  refine ret_of Tryz.func125 rfl Tryz.ntmps125 rfl ?_
  refine c_seq (fun K1 hK1 => ?_)
  refine c_reg ?_ -- region 0 class.go:131
  refine wl (ro_move rfl) ?_
  refine wl (ro_nilCheck rfl) ?_
  refine wl (ro_fieldAddr (k := 1) rfl fo_96_1) ?_
  refine wl (ro_loadB rfl sc_3 (hB) (cel_get' (by omega) V.i1)) ?_
  refine wl (ro_assign rfl) ?_
  refine wl_nil (x_then (hK1 _ _ ?_))
  clear hK1 K1
  refine forget [(0, _), (2, _)] ⟨rfl, rfl, trivial⟩ (fun e => ?_)
  refine c_seq (fun K2 hK2 => ?_)
  refine c_reg ?_ -- region 1 class.go:132
  refine wl (ro_move rfl) ?_
  refine wl (ro_move rfl) ?_
  refine wl (ro_arith rfl rfl rfl (Go.IntWalk.i64_in _ (by omega))) ?_
  refine wl (ro_nilCheck rfl) ?_
  refine wl (ro_fieldAddr (k := 1) rfl fo_96_1) ?_
  refine wl_put rfl rfl rfl sz_3 hB ((cel_lt (by omega))) ((cel_put 1 (by omega))) (fun w1 hB F1 => ?_)
  replace hF := hF.thenDrew.thenO F1 (by first | exact .inr (by omega) | exact .inl rfl | exact .inl (by assumption))
  have hi1 : pt f 1 (i64c (σ.i + 1)) 1 = i64c (σ.i + 1) := pt_same
  have hp1 := V1.p0
  refine wl_nil (x_then (hK2 _ _ ?_))
  clear hK2 K2
  refine forget [(0, _), (2, _)] ⟨rfl, rfl, trivial⟩ (fun e => ?_)
  refine c_seq (fun K3 hK3 => ?_)
  rcases hcc : p[σ.i + 1]? with _ | c
  · skip
    have hge : p.length ≤ σ.i + 1 := List.getElem?_eq_none_iff.1 hcc
    refine c_pi [(0, false), (1, false), (2, false), (3, false), (4, false), (5, false), (6, false), (7, false), (8, false), (9, false), (10, false), (11, false), (12, false), (13, false), (14, false), (15, false), (16, false), (17, false), (18, false), (19, false), (20, false), (21, false), (22, false)] (SameH _) mixed (by kernel_rfl) rfl (by kernel_rfl) (po_then (po_bp)) (sameH_now _ _) ?_ -- region 2 class.go:133
    refine pi_ro rfl (fun w hS => ro_move rfl) ?_
    refine pi_ro rfl (fun w hS => ro_nilCheck rfl) ?_
    refine pi_ro rfl (fun w hS => ro_fieldAddr (k := 1) rfl fo_96_1) ?_
    refine pi_ro rfl (fun w hS => ro_loadB rfl sc_3 (Blk.of_heap hB hS) (cel_get' (by omega) hi1)) ?_
    refine pi_ro rfl (fun w hS => ro_move rfl) ?_
    refine pi_ro rfl (fun w hS => ro_nilCheck rfl) ?_
    refine pi_ro rfl (fun w hS => ro_fieldAddr (k := 0) rfl fo_96_0) ?_
    refine pi_ro rfl (fun w hS => ro_loadB rfl sc_9 (Blk.of_heap hB hS) (cel_get' (by omega) hp1)) ?_
    refine pi_ro rfl (fun w hS => ro_lenS rfl st_9) ?_
    refine pi_ro rfl (fun w hS => ro_cmp (r := false) rfl rfl (congrArg some (decide_eq_false (by omega)))) ?_
    refine pi_ro rfl (fun w hS => ro_move rfl) ?_
    refine pi_gno rfl rfl ?_
    refine pi_gno rfl rfl ?_
    refine pi_gno rfl rfl ?_
    refine pi_gno rfl rfl ?_
    refine pi_gno rfl rfl ?_
    refine pi_gno rfl rfl ?_
    refine pi_gno rfl rfl ?_
    refine pi_gno rfl rfl ?_
    refine pi_gno rfl rfl ?_
    refine pi_gno rfl rfl ?_
    refine pi_ro rfl (fun w hS => ro_pick rfl rfl rfl) ?_
    refine pi_ro rfl (fun w hS => ro_assign rfl) ?_
    refine pi_nil (x_then (hK3 _ _ ?_))
    clear hK3 K3
    refine c_mid (fun a' w' => ∃ f1, FB w'.heap xb 325 f1 96 ∧ PV f1 p { σ with i := clsI p σ.i } T ∧ Fram (one xb) w w' ∧ ∃ e, a' = Fr 186 (upds e [(0, ptr xb), (2, i64c σ.i), (3, .bool (clsN p σ.i))]) []) ?_ ?_
    · skip
      refine c_seq (fun K4 hK4 => ?_)
      refine c_reg ?_ -- region 3 class.go:134
      refine wl (ro_move rfl) ?_
      refine wl_nil (x_then (hK4 _ _ ?_))
      clear hK4 K4
      refine wc_cond rfl (fun hc43 => ?_) (fun hc43 => ?_)
      · try simp only [decide_eq_true_eq, decide_eq_false_iff_not, Bool.not_eq_true', Bool.not_eq_false', Bool.not_eq_eq_eq_not, Bool.not_true, Bool.not_false, beq_iff_eq, bne_iff_ne, ne_eq, beq_eq_false_iff_ne, bne_eq_false_iff_eq, gt_iff_lt, ge_iff_le, Int.not_lt, Int.not_le] at hc43
        cases hc43
      · try simp only [decide_eq_true_eq, decide_eq_false_iff_not, Bool.not_eq_true', Bool.not_eq_false', Bool.not_eq_eq_eq_not, Bool.not_true, Bool.not_false, beq_iff_eq, bne_iff_ne, ne_eq, beq_eq_false_iff_ne, bne_eq_false_iff_eq, gt_iff_lt, ge_iff_le, Int.not_lt, Int.not_le] at hc43
        refine c_skip (x_then ?_)
        have hN : clsN p σ.i = false := by unfold clsN; rw [hcc]; rfl
        have hI : clsI p σ.i = σ.i + 1 := by unfold clsI; rw [hcc]; rfl
        exact ⟨_, hB, by rw [hI]; exact V1, hF.thenDrew, kp _ ⟨rfl, rfl, by rw [hN]; rfl, trivial⟩⟩
    clear hB hF hi1 hp1 V1
    rintro a' w2 ⟨f2, hB, V2, hF, e, rfl⟩
    refine c_seq (fun K5 hK5 => ?_)
    refine c_reg ?_ -- region 5 class.go:137
    refine wl_new (ze_87) (fun sb w2 hbsb hZ F2 => ?_)
    have hbssb := Nat.le_trans hF.size hbsb
    have hnexbsb : xb < sb := Nat.lt_of_lt_of_le hB.lt hbsb
    replace hF := hF.thenDrew.thenN F2
    replace hB := F2.blkN hB
    refine wl_nil (x_then (hK5 _ _ ?_))
    clear hK5 K5
    refine forget [(0, _), (2, _), (3, _), (4, _)] ⟨rfl, rfl, rfl, rfl, trivial⟩ (fun e => ?_)
    refine c_seq (fun K6 hK6 => ?_)
    refine c_block ?_
    -- loop@r6: live slots [0, 2, 3, 4]
    refine c_loopG (fun m a' w' => ∃ (i : Nat) (Z : Nat) (f1 : Nat → Value) (ff : Nat), m = p.length - i ∧ clsF p σ.i ff i Z = clsR p σ.i ∧ FB w'.heap xb 325 f1 96 ∧ PV f1 p { σ with i := i } T ∧ Blk w'.heap sb (setC Z) 87 ∧ Fram (one xb) w w' ∧ ∃ e, a' = Fr 186 (upds e [(0, ptr xb), (2, i64c σ.i), (3, .bool (clsN p σ.i)), (4, ptr sb)]) []) (p.length - clsI p σ.i) ⟨clsI p σ.i, 0, f2, p.length + 1, rfl, rfl, hB, V2, by rw [setC_zero]; exact hZ, hF, kp _ ⟨rfl, rfl, rfl, rfl, trivial⟩⟩ ?_
    clear hB hF hZ V2
    rintro m a' w3 ⟨i, Z, f3, ff, rfl, hcl, hB, V3, hZ, hF, e, rfl⟩
    have hi3 : f3 1 = i64c i := V3.i1
    have hp3 := V3.p0
    have hil3 : i ≤ p.length := V3.il
    obtain ⟨ff, rfl⟩ : ∃ k, ff = k + 1 := by
      cases ff with
      | zero => exact absurd rfl (hRe (0, 0) hcl.symm)
      | succ k => exact ⟨k, rfl⟩
    unfold clsF at hcl
    refine c_seq (fun K7 hK7 => ?_)
    refine c_seq (fun K8 hK8 => ?_)
    rcases hcc6 : p[i]? with _ | c6
    rotate_left
    by_cases h93 : c6 = 93
    rotate_left
    · skip
      have hlt6 := get_lt hcc6
      rw [hcc6] at hcl
      simp only [h93, if_false] at hcl
      refine c_pi [(0, false), (1, false), (2, false), (3, false), (4, false), (5, false), (6, false), (7, false), (8, false), (9, false), (10, false), (11, false), (12, false), (13, false), (14, false), (15, false), (16, false), (17, false), (18, false), (19, false), (20, false), (21, false)] (SameH _) mixed (by kernel_rfl) rfl (by kernel_rfl) (po_then (po_then (po_then (po_blk (po_then (po_bp)))))) (sameH_now _ _) ?_ -- region 6 class.go:138
      refine pi_ro rfl (fun w hS => ro_move rfl) ?_
      refine pi_ro rfl (fun w hS => ro_nilCheck rfl) ?_
      refine pi_ro rfl (fun w hS => ro_fieldAddr (k := 1) rfl fo_96_1) ?_
      refine pi_ro rfl (fun w hS => ro_loadB rfl sc_3 (Blk.of_heap hB hS) (cel_get' (by omega) hi3)) ?_
      refine pi_ro rfl (fun w hS => ro_move rfl) ?_
      refine pi_ro rfl (fun w hS => ro_nilCheck rfl) ?_
      refine pi_ro rfl (fun w hS => ro_fieldAddr (k := 0) rfl fo_96_0) ?_
      refine pi_ro rfl (fun w hS => ro_loadB rfl sc_9 (Blk.of_heap hB hS) (cel_get' (by omega) hp3)) ?_
      refine pi_ro rfl (fun w hS => ro_lenS rfl st_9) ?_
      refine pi_ro rfl (fun w hS => ro_cmp (r := true) rfl rfl (congrArg some (decide_eq_true (by omega)))) ?_
      refine pi_ro rfl (fun w hS => ro_move rfl) ?_
      refine pi_gyes rfl rfl (fun w hS => ro_move rfl) ?_
      refine pi_gyes rfl rfl (fun w hS => ro_nilCheck rfl) ?_
      refine pi_gyes rfl rfl (fun w hS => ro_fieldAddr (k := 0) rfl fo_96_0) ?_
      refine pi_gyes rfl rfl (fun w hS => ro_loadB rfl sc_9 (Blk.of_heap hB hS) (cel_get' (by omega) hp3)) ?_
      refine pi_gyes rfl rfl (fun w hS => ro_move rfl) ?_
      refine pi_gyes rfl rfl (fun w hS => ro_nilCheck rfl) ?_
      refine pi_gyes rfl rfl (fun w hS => ro_fieldAddr (k := 1) rfl fo_96_1) ?_
      refine pi_gyes rfl rfl (fun w hS => ro_loadB rfl sc_3 (Blk.of_heap hB hS) (cel_get' (by omega) hi3)) ?_
      refine pi_gyes rfl rfl (fun w hS => ro_indexS rfl rfl st_9 (rfl) (hcc6)) ?_
      refine pi_gyes rfl rfl (fun w hS => ro_cmp (r := true) rfl rfl (congrArg some ((u8ne c6 93).trans (decide_eq_true h93)))) ?_
      refine pi_ro rfl (fun w hS => ro_pick rfl rfl rfl) ?_
      refine pi_nil (x_then (hK8 _ _ ?_))
      clear hK8 K8
      refine wc_condT rfl ?_
      refine c_skip (x_then (hK7 _ _ ?_))
      clear hK7 K7
      refine c_block ?_
      refine forget [(0, _), (2, _), (3, _), (4, _), (62, _), (63, _), (64, _), (65, _), (66, _), (67, _), (68, _), (69, _), (70, _), (71, _)] ⟨rfl, rfl, rfl, rfl, rfl, rfl, rfl, rfl, rfl, rfl, rfl, rfl, rfl, rfl, trivial⟩ (fun e => ?_)
      refine c_seq (fun K9 hK9 => ?_)
      refine c_reg ?_ -- region 7 class.go:139
      refine wl (ro_move rfl) ?_
      refine wl_call rfl en_139 (item139 hB V3 hcc6) ?_
      rintro r w4 ⟨⟨Z4, b4, o4, f4, ec4, rfl, hB, hec4, hP4⟩, F4⟩
      replace hF := hF.thenDrew.trans F4
      replace hZ := F4.blkO hZ (by omega)
      refine wl (ro_move rfl) ?_
      refine wl (ro_extract rfl rfl) ?_
      refine wl (ro_extract rfl rfl) ?_
      refine wl (ro_extract rfl rfl) ?_
      refine wl_new (ze_87) (fun ab w3 hbab hA F3 => ?_)
      have hbsab := Nat.le_trans hF.size hbab
      have hnexbab : xb < ab := Nat.lt_of_lt_of_le hB.lt hbab
      have hnesbab : sb < ab := Nat.lt_of_lt_of_le hZ.lt hbab
      replace hF := hF.thenDrew.thenN F3
      replace hB := F3.blkN hB
      replace hZ := F3.blkN hZ
      refine wl_puta rfl rfl (by simp [Value.oneCell', i64c, u64c, u8c, ptr]) sz_87 (rfl) hA ((by simp)) (rfl) (fun w4 hA F4 => ?_)
      replace hF := hF.thenDrew.thenO F4 (by first | exact .inr (by omega) | exact .inl rfl | exact .inl (by assumption))
      replace hB := F4.blkO hB (by omega)
      replace hZ := F4.blkO hZ (by omega)
      refine wl (ro_assign rfl) ?_
      refine wl (ro_assign rfl) ?_
      refine wl_nil (x_then (hK9 _ _ ?_))
      clear hK9 K9
      refine c_seq (fun K10 hK10 => ?_)
      refine c_seq (fun K11 hK11 => ?_)
      refine c_reg ?_ -- region 8 class.go:140
      refine wl (ro_move rfl) ?_
      refine wl (ro_nilCheck rfl) ?_
      refine wl (ro_fieldAddr (k := 323) rfl fo_96_8) ?_
      refine wl (ro_loadB rfl sc_53 (hB) (cel_get' (by omega) hec4)) ?_
      refine wl (ro_cmp (r := decide (ec4 ≠ 0)) rfl rfl (congrArg some (bnec ec4 0))) ?_
      refine wl_nil (x_then (hK11 _ _ ?_))
      clear hK11 K11
      refine wc_cond rfl (fun hc83 => ?_) (fun hc83 => ?_)
      · try simp only [decide_eq_true_eq, decide_eq_false_iff_not, Bool.not_eq_true', Bool.not_eq_false', Bool.not_eq_eq_eq_not, Bool.not_true, Bool.not_false, beq_iff_eq, bne_iff_ne, ne_eq, beq_eq_false_iff_ne, bne_eq_false_iff_eq, gt_iff_lt, ge_iff_le, Int.not_lt, Int.not_le] at hc83
        have hec0 : ec4 ≠ 0 := by simpa using hc83
        obtain ⟨e4, hX4, he4, E4⟩ : ∃ e, item p i c6 = .error e ∧ e.1 = ec4 ∧ ERR f4 e := by rcases hP4 with h | h; exact absurd h.1 hec0; exact h.2
        rw [hX4] at hcl
        simp only at hcl
        have hfin : RP xb p (classX p σ) _ := RP.er hB E4 (hXe _ hcl.symm)
        refine c_ret (x_thenR (x_blkR (x_thenR (x_blkR (x_thenR ?_)))))
        refine bp_ret Tryz.results125 rfl ?_
        exact ⟨rfl, hfin, hF⟩
      · try simp only [decide_eq_true_eq, decide_eq_false_iff_not, Bool.not_eq_true', Bool.not_eq_false', Bool.not_eq_eq_eq_not, Bool.not_true, Bool.not_false, beq_iff_eq, bne_iff_ne, ne_eq, beq_eq_false_iff_ne, bne_eq_false_iff_eq, gt_iff_lt, ge_iff_le, Int.not_lt, Int.not_le] at hc83
        have hec0 : ec4 = 0 := by simpa using hc83
        obtain ⟨j4, hX4, V4⟩ : ∃ j, item p i c6 = .ok (Z4, o4, b4.toNat, j) ∧ PV f4 p { σ with i := j } T := by rcases hP4 with h | h; exact h.2; exact absurd hec0 h.1
        clear hP4
        rw [hX4] at hcl
        simp only at hcl
        have hi4 : f4 1 = i64c j4 := V4.i1
        have hp4 := V4.p0
        have hil4 : j4 ≤ p.length := V4.il
        have hij := (item_ok hlt6 hX4).2.2
        have hcase : (p[j4]? = some 45 ∧ ∃ c, p[j4 + 1]? = some c ∧ c ≠ 93) ∨ (p[j4]? = some 45 ∧ p[j4 + 1]? = some 93) ∨ (∃ c, p[j4]? = some c ∧ c ≠ 45 ∧ j4 + 1 < p.length) ∨ p.length ≤ j4 + 1 := by
          by_cases h1 : j4 + 1 < p.length
          · have e1 : p[j4]? = some (p[j4]'(by omega)) := List.getElem?_eq_getElem (by omega)
            have e2 : p[j4 + 1]? = some (p[j4 + 1]'h1) := List.getElem?_eq_getElem h1
            by_cases h2 : p[j4]'(by omega) = 45
            · rw [h2] at e1
              by_cases h3 : p[j4 + 1]'h1 = 93
              · rw [h3] at e2; exact .inr (.inl ⟨e1, e2⟩)
              · exact .inl ⟨e1, _, e2, h3⟩
            · exact .inr (.inr (.inl ⟨_, e1, h2, h1⟩))
          · exact .inr (.inr (.inr (by omega)))
        refine c_skip (x_then (hK10 _ _ ?_))
        clear hK10 K10
        refine c_seq (fun K12 hK12 => ?_)
        refine c_seq (fun K13 hK13 => ?_)
        rcases hcase with ⟨h1, c9, h2, hc9⟩ | ⟨h1, h2⟩ | ⟨c9, h1, hc9, h2⟩ | h2
        · skip
          have hlt9 := get_lt h2
          rw [if_pos ⟨h1, by rw [h2]; simp, by rw [h2]; simpa using hc9⟩, h2] at hcl
          simp only [Option.getD_some] at hcl
          refine c_pi [(0, false), (1, false), (2, false), (3, false), (4, false), (5, false), (6, false), (7, false), (8, false), (9, false), (10, false), (11, false), (12, false), (13, false), (14, false), (15, false), (16, false), (17, false), (18, false), (19, false), (20, false), (21, false), (22, false), (23, false), (24, false), (25, false), (26, false), (27, false), (28, false), (29, false), (30, false), (31, false), (32, false), (33, false), (34, false), (35, false)] (SameH _) mixed (by kernel_rfl) rfl (by kernel_rfl) (po_then (po_then (po_blk (po_then (po_blk (po_then (po_bp))))))) (sameH_now _ _) ?_ -- region 9 class.go:143
          refine pi_ro rfl (fun w hS => ro_move rfl) ?_
          refine pi_ro rfl (fun w hS => ro_nilCheck rfl) ?_
          refine pi_ro rfl (fun w hS => ro_fieldAddr (k := 1) rfl fo_96_1) ?_
          refine pi_ro rfl (fun w hS => ro_loadB rfl sc_3 (Blk.of_heap hB hS) (cel_get' (by omega) hi4)) ?_
          refine pi_ro rfl (fun w hS => ro_arith rfl rfl rfl (Go.IntWalk.i64_in _ (by omega))) ?_
          refine pi_ro rfl (fun w hS => ro_move rfl) ?_
          refine pi_ro rfl (fun w hS => ro_nilCheck rfl) ?_
          refine pi_ro rfl (fun w hS => ro_fieldAddr (k := 0) rfl fo_96_0) ?_
          refine pi_ro rfl (fun w hS => ro_loadB rfl sc_9 (Blk.of_heap hB hS) (cel_get' (by omega) hp4)) ?_
          refine pi_ro rfl (fun w hS => ro_lenS rfl st_9) ?_
          refine pi_ro rfl (fun w hS => ro_cmp (r := true) rfl rfl (congrArg some (decide_eq_true (by omega)))) ?_
          refine pi_ro rfl (fun w hS => ro_move rfl) ?_
          refine pi_gyes rfl rfl (fun w hS => ro_move rfl) ?_
          refine pi_gyes rfl rfl (fun w hS => ro_nilCheck rfl) ?_
          refine pi_gyes rfl rfl (fun w hS => ro_fieldAddr (k := 0) rfl fo_96_0) ?_
          refine pi_gyes rfl rfl (fun w hS => ro_loadB rfl sc_9 (Blk.of_heap hB hS) (cel_get' (by omega) hp4)) ?_
          refine pi_gyes rfl rfl (fun w hS => ro_move rfl) ?_
          refine pi_gyes rfl rfl (fun w hS => ro_nilCheck rfl) ?_
          refine pi_gyes rfl rfl (fun w hS => ro_fieldAddr (k := 1) rfl fo_96_1) ?_
          refine pi_gyes rfl rfl (fun w hS => ro_loadB rfl sc_3 (Blk.of_heap hB hS) (cel_get' (by omega) hi4)) ?_
          refine pi_gyes rfl rfl (fun w hS => ro_indexS rfl rfl st_9 (rfl) (h1)) ?_
          refine pi_gyes rfl rfl (fun w hS => ro_cmp (r := true) rfl rfl rfl) ?_
          refine pi_ro rfl (fun w hS => ro_pick rfl rfl rfl) ?_
          refine pi_ro rfl (fun w hS => ro_move rfl) ?_
          refine pi_gyes rfl rfl (fun w hS => ro_move rfl) ?_
          refine pi_gyes rfl rfl (fun w hS => ro_nilCheck rfl) ?_
          refine pi_gyes rfl rfl (fun w hS => ro_fieldAddr (k := 0) rfl fo_96_0) ?_
          refine pi_gyes rfl rfl (fun w hS => ro_loadB rfl sc_9 (Blk.of_heap hB hS) (cel_get' (by omega) hp4)) ?_
          refine pi_gyes rfl rfl (fun w hS => ro_move rfl) ?_
          refine pi_gyes rfl rfl (fun w hS => ro_nilCheck rfl) ?_
          refine pi_gyes rfl rfl (fun w hS => ro_fieldAddr (k := 1) rfl fo_96_1) ?_
          refine pi_gyes rfl rfl (fun w hS => ro_loadB rfl sc_3 (Blk.of_heap hB hS) (cel_get' (by omega) hi4)) ?_
          refine pi_gyes rfl rfl (fun w hS => ro_arith rfl rfl rfl (Go.IntWalk.i64_in _ (by omega))) ?_
          refine pi_gyes rfl rfl (fun w hS => ro_indexS rfl rfl st_9 ((show _ = ((j4 + 1 : Nat) : Int) by omega)) (h2)) ?_
          refine pi_gyes rfl rfl (fun w hS => ro_cmp (r := true) rfl rfl (congrArg some ((u8ne c9 93).trans (decide_eq_true hc9)))) ?_
          refine pi_ro rfl (fun w hS => ro_pick rfl rfl rfl) ?_
          refine pi_nil (x_then (hK13 _ _ ?_))
          clear hK13 K13
          refine wc_condT rfl ?_
          refine c_seq (fun K14 hK14 => ?_)
          refine c_reg ?_ -- region 10 class.go:144
          refine wl (ro_move rfl) ?_
          refine wl (ro_nilCheck rfl) ?_
          refine wl (ro_fieldAddr (k := 1) rfl fo_96_1) ?_
          refine wl (ro_loadB rfl sc_3 (hB) (cel_get' (by omega) hi4)) ?_
          refine wl (ro_assign rfl) ?_
          refine wl_nil (x_then (hK14 _ _ ?_))
          clear hK14 K14
          refine forget [(0, _), (2, _), (3, _), (4, _), (5, _), (6, _), (7, _), (8, _), (62, _), (63, _), (64, _), (65, _), (66, _), (67, _), (68, _), (69, _), (70, _), (71, _), (96, _), (97, _), (98, _), (99, _), (100, _), (101, _), (102, _), (103, _), (104, _), (105, _), (108, _), (109, _), (110, _), (111, _), (112, _), (113, _), (114, _), (115, _), (116, _), (117, _), (118, _)] ⟨rfl, rfl, rfl, rfl, rfl, rfl, rfl, rfl, rfl, rfl, rfl, rfl, rfl, rfl, rfl, rfl, rfl, rfl, rfl, rfl, rfl, rfl, rfl, rfl, rfl, rfl, rfl, rfl, rfl, rfl, rfl, rfl, rfl, rfl, rfl, rfl, rfl, rfl, rfl, trivial⟩ (fun e => ?_)
          refine c_seq (fun K15 hK15 => ?_)
          refine c_reg ?_ -- region 11 class.go:145
          refine wl (ro_move rfl) ?_
          refine wl (ro_move rfl) ?_
          refine wl (ro_arith rfl rfl rfl (Go.IntWalk.i64_in _ (by omega))) ?_
          refine wl (ro_nilCheck rfl) ?_
          refine wl (ro_fieldAddr (k := 1) rfl fo_96_1) ?_
          refine wl_put rfl rfl rfl sz_3 hB ((cel_lt (by omega))) ((cel_put 1 (by omega))) (fun w5 hB F5 => ?_)
          replace hF := hF.thenDrew.thenO F5 (by first | exact .inr (by omega) | exact .inl rfl | exact .inl (by assumption))
          replace hZ := F5.blkO hZ (by omega)
          replace hA := F5.blkO hA (by omega)
          have V5 : PV (pt f4 1 (i64c (j4 + 1))) p { σ with i := j4 + 1 } T := V4.setI (i := j4 + 1) (by omega)
          refine wl_nil (x_then (hK15 _ _ ?_))
          clear hK15 K15
          refine forget [(0, _), (2, _), (3, _), (4, _), (5, _), (6, _), (7, _), (8, _), (62, _), (63, _), (64, _), (65, _), (66, _), (67, _), (68, _), (69, _), (70, _), (71, _), (96, _), (97, _), (98, _), (99, _), (100, _), (101, _), (102, _), (103, _), (104, _), (105, _), (108, _), (109, _), (110, _), (111, _), (112, _), (113, _), (114, _), (115, _), (116, _), (117, _), (118, _)] ⟨rfl, rfl, rfl, rfl, rfl, rfl, rfl, rfl, rfl, rfl, rfl, rfl, rfl, rfl, rfl, rfl, rfl, rfl, rfl, rfl, rfl, rfl, rfl, rfl, rfl, rfl, rfl, rfl, rfl, rfl, rfl, rfl, rfl, rfl, rfl, rfl, rfl, rfl, rfl, trivial⟩ (fun e => ?_)
          refine c_seq (fun K16 hK16 => ?_)
          refine c_reg ?_ -- region 12 class.go:146
          refine wl (ro_move rfl) ?_
          refine wl_call rfl en_139 (item139 (σ := { σ with i := j4 + 1 }) hB V5 h2) ?_
          rintro r w6 ⟨⟨Z6, b6, o6, f6, ec6, rfl, hB, hec6, hP6⟩, F6⟩
          replace hF := hF.thenDrew.trans F6
          replace hZ := F6.blkO hZ (by omega)
          replace hA := F6.blkO hA (by omega)
          refine wl (ro_move rfl) ?_
          refine wl (ro_extract rfl rfl) ?_
          refine wl (ro_extract rfl rfl) ?_
          refine wl (ro_extract rfl rfl) ?_
          refine wl_new (ze_87) (fun cb w6 hbcb hC F6 => ?_)
          have hbscb := Nat.le_trans hF.size hbcb
          have hnexbcb : xb < cb := Nat.lt_of_lt_of_le hB.lt hbcb
          have hnesbcb : sb < cb := Nat.lt_of_lt_of_le hZ.lt hbcb
          have hneabcb : ab < cb := Nat.lt_of_lt_of_le hA.lt hbcb
          replace hF := hF.thenDrew.thenN F6
          replace hB := F6.blkN hB
          replace hZ := F6.blkN hZ
          replace hA := F6.blkN hA
          refine wl_puta rfl rfl (by simp [Value.oneCell', i64c, u64c, u8c, ptr]) sz_87 (rfl) hC ((by simp)) (rfl) (fun w7 hC F7 => ?_)
          replace hF := hF.thenDrew.thenO F7 (by first | exact .inr (by omega) | exact .inl rfl | exact .inl (by assumption))
          replace hB := F7.blkO hB (by omega)
          replace hZ := F7.blkO hZ (by omega)
          replace hA := F7.blkO hA (by omega)
          refine wl (ro_assign rfl) ?_
          refine wl (ro_assign rfl) ?_
          refine wl_nil (x_then (hK16 _ _ ?_))
          clear hK16 K16
          refine c_seq (fun K17 hK17 => ?_)
          refine c_seq (fun K18 hK18 => ?_)
          refine c_reg ?_ -- region 13 class.go:147
          refine wl (ro_move rfl) ?_
          refine wl (ro_nilCheck rfl) ?_
          refine wl (ro_fieldAddr (k := 323) rfl fo_96_8) ?_
          refine wl (ro_loadB rfl sc_53 (hB) (cel_get' (by omega) hec6)) ?_
          refine wl (ro_cmp (r := decide (ec6 ≠ 0)) rfl rfl (congrArg some (bnec ec6 0))) ?_
          refine wl_nil (x_then (hK18 _ _ ?_))
          clear hK18 K18
          refine wc_cond rfl (fun hc139 => ?_) (fun hc139 => ?_)
          · try simp only [decide_eq_true_eq, decide_eq_false_iff_not, Bool.not_eq_true', Bool.not_eq_false', Bool.not_eq_eq_eq_not, Bool.not_true, Bool.not_false, beq_iff_eq, bne_iff_ne, ne_eq, beq_eq_false_iff_ne, bne_eq_false_iff_eq, gt_iff_lt, ge_iff_le, Int.not_lt, Int.not_le] at hc139
            have hec6' : ec6 ≠ 0 := by simpa using hc139
            obtain ⟨e6, hX6, he6, E6⟩ : ∃ e, item p (j4 + 1) c9 = .error e ∧ e.1 = ec6 ∧ ERR f6 e := by rcases hP6 with h | h; exact absurd h.1 hec6'; exact h.2
            rw [hX6] at hcl
            simp only at hcl
            have hfin : RP xb p (classX p σ) _ := RP.er hB E6 (hXe _ hcl.symm)
            refine c_ret (x_thenR (x_thenR (x_blkR (x_thenR (x_blkR (x_thenR ?_))))))
            refine bp_ret Tryz.results125 rfl ?_
            exact ⟨rfl, hfin, hF⟩
          · try simp only [decide_eq_true_eq, decide_eq_false_iff_not, Bool.not_eq_true', Bool.not_eq_false', Bool.not_eq_eq_eq_not, Bool.not_true, Bool.not_false, beq_iff_eq, bne_iff_ne, ne_eq, beq_eq_false_iff_ne, bne_eq_false_iff_eq, gt_iff_lt, ge_iff_le, Int.not_lt, Int.not_le] at hc139
            have hec6' : ec6 = 0 := by simpa using hc139
            obtain ⟨j6, hX6, V6⟩ : ∃ j, item p (j4 + 1) c9 = .ok (Z6, o6, b6.toNat, j) ∧ PV f6 p { σ with i := j } T := by rcases hP6 with h | h; exact h.2; exact absurd hec6' h.1
            clear hP6
            rw [hX6] at hcl
            simp only at hcl
            have hij6 := (item_ok hlt9 hX6).2.2
            have hq14 : o4 = false ∨ (o4 = true ∧ o6 = false) ∨ (o4 = true ∧ o6 = true ∧ b6.toNat < b4.toNat) ∨ (o4 = true ∧ o6 = true ∧ b4.toNat ≤ b6.toNat) := by
              cases o4 with
              | false => exact .inl rfl
              | true =>
                cases o6 with
                | false => exact .inr (.inl ⟨rfl, rfl⟩)
                | true =>
                  by_cases h : b6.toNat < b4.toNat
                  · exact .inr (.inr (.inl ⟨rfl, rfl, h⟩))
                  · exact .inr (.inr (.inr ⟨rfl, rfl, by omega⟩))
            refine c_skip (x_then (hK17 _ _ ?_))
            clear hK17 K17
            refine c_seq (fun K19 hK19 => ?_)
            refine c_seq (fun K20 hK20 => ?_)
            rcases hq14 with rfl | ⟨rfl, rfl⟩ | ⟨rfl, rfl, hbb⟩ | ⟨rfl, rfl, hbb⟩
            · skip
              rw [if_neg (by simp)] at hcl
              refine c_reg ?_ -- region 14 class.go:150
              refine wl (ro_move rfl) ?_
              refine wl (ro_not rfl) ?_
              refine wl (ro_move rfl) ?_
              refine wlg_no rfl ?_
              refine wlg_no rfl ?_
              refine wl (ro_pick rfl rfl rfl) ?_
              refine wl (ro_move rfl) ?_
              refine wlg_no rfl ?_
              refine wlg_no rfl ?_
              refine wlg_no rfl ?_
              refine wl (ro_pick rfl rfl rfl) ?_
              refine wl_nil (x_then (hK20 _ _ ?_))
              clear hK20 K20
              refine wc_condT rfl ?_
              refine c_seq (fun K21 hK21 => ?_)
              refine c_reg ?_ -- region 15 class.go:151
              refine wl (ro_move rfl) ?_
              refine wl (ro_move rfl) ?_
              refine wl_call rfl en_97 (fail97 hB) ?_
              rintro _ w9 ⟨rfl, hB, F9⟩
              replace hF := hF.thenDrew.trans F9
              have hfin : RP xb p (classX p σ) _ := RP.er (e := (2, j4)) hB (err97 V6) (hXe _ hcl.symm)
              refine wl_nil (x_then (hK21 _ _ ?_))
              clear hK21 K21
              refine c_ret (x_thenR (x_thenR (x_blkR (x_thenR (x_blkR (x_thenR ?_))))))
              refine bp_ret Tryz.results125 rfl ?_
              exact ⟨rfl, hfin, hF⟩
            · skip
              rw [if_neg (by simp)] at hcl
              refine c_reg ?_ -- region 14 class.go:150
              refine wl (ro_move rfl) ?_
              refine wl (ro_not rfl) ?_
              refine wl (ro_move rfl) ?_
              refine wlg_yes rfl (ro_move rfl) ?_
              refine wlg_yes rfl (ro_not rfl) ?_
              refine wl (ro_pick rfl rfl rfl) ?_
              refine wl (ro_move rfl) ?_
              refine wlg_no rfl ?_
              refine wlg_no rfl ?_
              refine wlg_no rfl ?_
              refine wl (ro_pick rfl rfl rfl) ?_
              refine wl_nil (x_then (hK20 _ _ ?_))
              clear hK20 K20
              refine wc_condT rfl ?_
              refine c_seq (fun K22 hK22 => ?_)
              refine c_reg ?_ -- region 15 class.go:151
              refine wl (ro_move rfl) ?_
              refine wl (ro_move rfl) ?_
              refine wl_call rfl en_97 (fail97 hB) ?_
              rintro _ w9 ⟨rfl, hB, F9⟩
              replace hF := hF.thenDrew.trans F9
              have hfin : RP xb p (classX p σ) _ := RP.er (e := (2, j4)) hB (err97 V6) (hXe _ hcl.symm)
              refine wl_nil (x_then (hK22 _ _ ?_))
              clear hK22 K22
              refine c_ret (x_thenR (x_thenR (x_blkR (x_thenR (x_blkR (x_thenR ?_))))))
              refine bp_ret Tryz.results125 rfl ?_
              exact ⟨rfl, hfin, hF⟩
            · skip
              rw [if_neg (by simp; omega)] at hcl
              refine c_reg ?_ -- region 14 class.go:150
              refine wl (ro_move rfl) ?_
              refine wl (ro_not rfl) ?_
              refine wl (ro_move rfl) ?_
              refine wlg_yes rfl (ro_move rfl) ?_
              refine wlg_yes rfl (ro_not rfl) ?_
              refine wl (ro_pick rfl rfl rfl) ?_
              refine wl (ro_move rfl) ?_
              refine wlg_yes rfl (ro_move rfl) ?_
              refine wlg_yes rfl (ro_move rfl) ?_
              refine wlg_yes rfl (ro_cmp (r := true) rfl rfl (congrArg some (decide_eq_true (by omega)))) ?_
              refine wl (ro_pick rfl rfl rfl) ?_
              refine wl_nil (x_then (hK20 _ _ ?_))
              clear hK20 K20
              refine wc_condT rfl ?_
              refine c_seq (fun K23 hK23 => ?_)
              refine c_reg ?_ -- region 15 class.go:151
              refine wl (ro_move rfl) ?_
              refine wl (ro_move rfl) ?_
              refine wl_call rfl en_97 (fail97 hB) ?_
              rintro _ w9 ⟨rfl, hB, F9⟩
              replace hF := hF.thenDrew.trans F9
              have hfin : RP xb p (classX p σ) _ := RP.er (e := (2, j4)) hB (err97 V6) (hXe _ hcl.symm)
              refine wl_nil (x_then (hK23 _ _ ?_))
              clear hK23 K23
              refine c_ret (x_thenR (x_thenR (x_blkR (x_thenR (x_blkR (x_thenR ?_))))))
              refine bp_ret Tryz.results125 rfl ?_
              exact ⟨rfl, hfin, hF⟩
            · skip
              rw [if_pos ⟨rfl, rfl, hbb⟩] at hcl
              refine c_reg ?_ -- region 14 class.go:150
              refine wl (ro_move rfl) ?_
              refine wl (ro_not rfl) ?_
              refine wl (ro_move rfl) ?_
              refine wlg_yes rfl (ro_move rfl) ?_
              refine wlg_yes rfl (ro_not rfl) ?_
              refine wl (ro_pick rfl rfl rfl) ?_
              refine wl (ro_move rfl) ?_
              refine wlg_yes rfl (ro_move rfl) ?_
              refine wlg_yes rfl (ro_move rfl) ?_
              refine wlg_yes rfl (ro_cmp (r := false) rfl rfl (congrArg some (decide_eq_false (by omega)))) ?_
              refine wl (ro_pick rfl rfl rfl) ?_
              refine wl_nil (x_then (hK20 _ _ ?_))
              clear hK20 K20
              refine wc_condF rfl ?_
              refine c_skip (x_then (hK19 _ _ ?_))
              clear hK19 K19
              refine c_reg ?_ -- region 16 class.go:154
              refine wl (ro_move rfl) ?_
              refine wl (ro_move rfl) ?_
              refine wl_call rfl en_128 (between128 (lo := b4) (hi := b6)) ?_
              rintro _ w8 ⟨rfl, F8⟩
              replace hF := hF.thenDrew.thenN F8
              replace hB := F8.blkN hB
              replace hZ := F8.blkN hZ
              replace hA := F8.blkN hA
              replace hC := F8.blkN hC
              refine wl_puta rfl rfl (by simp [Value.oneCell', i64c, u64c, u8c, ptr]) sz_87 (rfl) hA ((by simp)) (rfl) (fun w9 hA F9 => ?_)
              replace hF := hF.thenDrew.thenO F9 (by first | exact .inr (by omega) | exact .inl rfl | exact .inl (by assumption))
              replace hB := F9.blkO hB (by omega)
              replace hZ := F9.blkO hZ (by omega)
              replace hC := F9.blkO hC (by omega)
              refine wl_nil (x_then (hK12 _ _ ?_))
              clear hK12 K12
              refine c_reg ?_ -- region 17 class.go:156
              refine wl (ro_loadAggB rfl ag_87 (hZ) rfl rfl) ?_
              refine wl (ro_loadAggB rfl ag_87 (hA) rfl rfl) ?_
              refine wl_call rfl en_140 (Join140) ?_
              rintro _ w10 ⟨rfl, F10⟩
              replace hF := hF.thenDrew.thenN F10
              replace hB := F10.blkN hB
              replace hZ := F10.blkN hZ
              replace hA := F10.blkN hA
              replace hC := F10.blkN hC
              refine wl_puta rfl rfl (by simp [Value.oneCell', i64c, u64c, u8c, ptr]) sz_87 (rfl) hZ ((by simp)) (rfl) (fun w11 hZ F11 => ?_)
              replace hF := hF.thenDrew.thenO F11 (by first | exact .inr (by omega) | exact .inl rfl | exact .inl (by assumption))
              replace hB := F11.blkO hB (by omega)
              replace hA := F11.blkO hA (by omega)
              replace hC := F11.blkO hC (by omega)
              refine wl_nil (x_blk (x_then ?_))
              first | exact ⟨p.length - j6, by omega, j6, _, f6, ff, rfl, hcl, hB, V6, hZ, hF, kp _ ⟨rfl, rfl, rfl, rfl, trivial⟩⟩ | exact ⟨p.length - j4, by omega, j4, _, f4, ff, rfl, hcl, hB, V4, hZ, hF, kp _ ⟨rfl, rfl, rfl, rfl, trivial⟩⟩
        · skip
          have hlt9 := get_lt h2
          rw [if_neg (by rw [h2]; simp)] at hcl
          refine c_pi [(0, false), (1, false), (2, false), (3, false), (4, false), (5, false), (6, false), (7, false), (8, false), (9, false), (10, false), (11, false), (12, false), (13, false), (14, false), (15, false), (16, false), (17, false), (18, false), (19, false), (20, false), (21, false), (22, false), (23, false), (24, false), (25, false), (26, false), (27, false), (28, false), (29, false), (30, false), (31, false), (32, false), (33, false), (34, false), (35, false)] (SameH _) mixed (by kernel_rfl) rfl (by kernel_rfl) (po_then (po_then (po_blk (po_then (po_blk (po_then (po_bp))))))) (sameH_now _ _) ?_ -- region 9 class.go:143
          refine pi_ro rfl (fun w hS => ro_move rfl) ?_
          refine pi_ro rfl (fun w hS => ro_nilCheck rfl) ?_
          refine pi_ro rfl (fun w hS => ro_fieldAddr (k := 1) rfl fo_96_1) ?_
          refine pi_ro rfl (fun w hS => ro_loadB rfl sc_3 (Blk.of_heap hB hS) (cel_get' (by omega) hi4)) ?_
          refine pi_ro rfl (fun w hS => ro_arith rfl rfl rfl (Go.IntWalk.i64_in _ (by omega))) ?_
          refine pi_ro rfl (fun w hS => ro_move rfl) ?_
          refine pi_ro rfl (fun w hS => ro_nilCheck rfl) ?_
          refine pi_ro rfl (fun w hS => ro_fieldAddr (k := 0) rfl fo_96_0) ?_
          refine pi_ro rfl (fun w hS => ro_loadB rfl sc_9 (Blk.of_heap hB hS) (cel_get' (by omega) hp4)) ?_
          refine pi_ro rfl (fun w hS => ro_lenS rfl st_9) ?_
          refine pi_ro rfl (fun w hS => ro_cmp (r := true) rfl rfl (congrArg some (decide_eq_true (by omega)))) ?_
          refine pi_ro rfl (fun w hS => ro_move rfl) ?_
          refine pi_gyes rfl rfl (fun w hS => ro_move rfl) ?_
          refine pi_gyes rfl rfl (fun w hS => ro_nilCheck rfl) ?_
          refine pi_gyes rfl rfl (fun w hS => ro_fieldAddr (k := 0) rfl fo_96_0) ?_
          refine pi_gyes rfl rfl (fun w hS => ro_loadB rfl sc_9 (Blk.of_heap hB hS) (cel_get' (by omega) hp4)) ?_
          refine pi_gyes rfl rfl (fun w hS => ro_move rfl) ?_
          refine pi_gyes rfl rfl (fun w hS => ro_nilCheck rfl) ?_
          refine pi_gyes rfl rfl (fun w hS => ro_fieldAddr (k := 1) rfl fo_96_1) ?_
          refine pi_gyes rfl rfl (fun w hS => ro_loadB rfl sc_3 (Blk.of_heap hB hS) (cel_get' (by omega) hi4)) ?_
          refine pi_gyes rfl rfl (fun w hS => ro_indexS rfl rfl st_9 (rfl) (h1)) ?_
          refine pi_gyes rfl rfl (fun w hS => ro_cmp (r := true) rfl rfl rfl) ?_
          refine pi_ro rfl (fun w hS => ro_pick rfl rfl rfl) ?_
          refine pi_ro rfl (fun w hS => ro_move rfl) ?_
          refine pi_gyes rfl rfl (fun w hS => ro_move rfl) ?_
          refine pi_gyes rfl rfl (fun w hS => ro_nilCheck rfl) ?_
          refine pi_gyes rfl rfl (fun w hS => ro_fieldAddr (k := 0) rfl fo_96_0) ?_
          refine pi_gyes rfl rfl (fun w hS => ro_loadB rfl sc_9 (Blk.of_heap hB hS) (cel_get' (by omega) hp4)) ?_
          refine pi_gyes rfl rfl (fun w hS => ro_move rfl) ?_
          refine pi_gyes rfl rfl (fun w hS => ro_nilCheck rfl) ?_
          refine pi_gyes rfl rfl (fun w hS => ro_fieldAddr (k := 1) rfl fo_96_1) ?_
          refine pi_gyes rfl rfl (fun w hS => ro_loadB rfl sc_3 (Blk.of_heap hB hS) (cel_get' (by omega) hi4)) ?_
          refine pi_gyes rfl rfl (fun w hS => ro_arith rfl rfl rfl (Go.IntWalk.i64_in _ (by omega))) ?_
          refine pi_gyes rfl rfl (fun w hS => ro_indexS rfl rfl st_9 ((show _ = ((j4 + 1 : Nat) : Int) by omega)) (h2)) ?_
          refine pi_gyes rfl rfl (fun w hS => ro_cmp (r := false) rfl rfl rfl) ?_
          refine pi_ro rfl (fun w hS => ro_pick rfl rfl rfl) ?_
          refine pi_nil (x_then (hK13 _ _ ?_))
          clear hK13 K13
          refine wc_condF rfl ?_
          refine c_skip (x_then (hK12 _ _ ?_))
          clear hK12 K12
          refine c_reg ?_ -- region 17 class.go:156
          refine wl (ro_loadAggB rfl ag_87 (hZ) rfl rfl) ?_
          refine wl (ro_loadAggB rfl ag_87 (hA) rfl rfl) ?_
          refine wl_call rfl en_140 (Join140) ?_
          rintro _ w12 ⟨rfl, F12⟩
          replace hF := hF.thenDrew.thenN F12
          replace hB := F12.blkN hB
          replace hZ := F12.blkN hZ
          replace hA := F12.blkN hA
          refine wl_puta rfl rfl (by simp [Value.oneCell', i64c, u64c, u8c, ptr]) sz_87 (rfl) hZ ((by simp)) (rfl) (fun w13 hZ F13 => ?_)
          replace hF := hF.thenDrew.thenO F13 (by first | exact .inr (by omega) | exact .inl rfl | exact .inl (by assumption))
          replace hB := F13.blkO hB (by omega)
          replace hA := F13.blkO hA (by omega)
          refine wl_nil (x_blk (x_then ?_))
          first | exact ⟨p.length - j6, by omega, j6, _, f6, ff, rfl, hcl, hB, V6, hZ, hF, kp _ ⟨rfl, rfl, rfl, rfl, trivial⟩⟩ | exact ⟨p.length - j4, by omega, j4, _, f4, ff, rfl, hcl, hB, V4, hZ, hF, kp _ ⟨rfl, rfl, rfl, rfl, trivial⟩⟩
        · skip
          rw [if_neg (by rw [h1]; simp [hc9])] at hcl
          refine c_pi [(0, false), (1, false), (2, false), (3, false), (4, false), (5, false), (6, false), (7, false), (8, false), (9, false), (10, false), (11, false), (12, false), (13, false), (14, false), (15, false), (16, false), (17, false), (18, false), (19, false), (20, false), (21, false), (22, false), (23, false), (24, false), (25, false), (26, false), (27, false), (28, false), (29, false), (30, false), (31, false), (32, false), (33, false), (34, false), (35, false)] (SameH _) mixed (by kernel_rfl) rfl (by kernel_rfl) (po_then (po_then (po_blk (po_then (po_blk (po_then (po_bp))))))) (sameH_now _ _) ?_ -- region 9 class.go:143
          refine pi_ro rfl (fun w hS => ro_move rfl) ?_
          refine pi_ro rfl (fun w hS => ro_nilCheck rfl) ?_
          refine pi_ro rfl (fun w hS => ro_fieldAddr (k := 1) rfl fo_96_1) ?_
          refine pi_ro rfl (fun w hS => ro_loadB rfl sc_3 (Blk.of_heap hB hS) (cel_get' (by omega) hi4)) ?_
          refine pi_ro rfl (fun w hS => ro_arith rfl rfl rfl (Go.IntWalk.i64_in _ (by omega))) ?_
          refine pi_ro rfl (fun w hS => ro_move rfl) ?_
          refine pi_ro rfl (fun w hS => ro_nilCheck rfl) ?_
          refine pi_ro rfl (fun w hS => ro_fieldAddr (k := 0) rfl fo_96_0) ?_
          refine pi_ro rfl (fun w hS => ro_loadB rfl sc_9 (Blk.of_heap hB hS) (cel_get' (by omega) hp4)) ?_
          refine pi_ro rfl (fun w hS => ro_lenS rfl st_9) ?_
          refine pi_ro rfl (fun w hS => ro_cmp (r := true) rfl rfl (congrArg some (decide_eq_true (by omega)))) ?_
          refine pi_ro rfl (fun w hS => ro_move rfl) ?_
          refine pi_gyes rfl rfl (fun w hS => ro_move rfl) ?_
          refine pi_gyes rfl rfl (fun w hS => ro_nilCheck rfl) ?_
          refine pi_gyes rfl rfl (fun w hS => ro_fieldAddr (k := 0) rfl fo_96_0) ?_
          refine pi_gyes rfl rfl (fun w hS => ro_loadB rfl sc_9 (Blk.of_heap hB hS) (cel_get' (by omega) hp4)) ?_
          refine pi_gyes rfl rfl (fun w hS => ro_move rfl) ?_
          refine pi_gyes rfl rfl (fun w hS => ro_nilCheck rfl) ?_
          refine pi_gyes rfl rfl (fun w hS => ro_fieldAddr (k := 1) rfl fo_96_1) ?_
          refine pi_gyes rfl rfl (fun w hS => ro_loadB rfl sc_3 (Blk.of_heap hB hS) (cel_get' (by omega) hi4)) ?_
          refine pi_gyes rfl rfl (fun w hS => ro_indexS rfl rfl st_9 (rfl) (h1)) ?_
          refine pi_gyes rfl rfl (fun w hS => ro_cmp (r := false) rfl rfl (congrArg some ((u8eq c9 45).trans (decide_eq_false hc9)))) ?_
          refine pi_ro rfl (fun w hS => ro_pick rfl rfl rfl) ?_
          refine pi_ro rfl (fun w hS => ro_move rfl) ?_
          refine pi_gno rfl rfl ?_
          refine pi_gno rfl rfl ?_
          refine pi_gno rfl rfl ?_
          refine pi_gno rfl rfl ?_
          refine pi_gno rfl rfl ?_
          refine pi_gno rfl rfl ?_
          refine pi_gno rfl rfl ?_
          refine pi_gno rfl rfl ?_
          refine pi_gno rfl rfl ?_
          refine pi_gno rfl rfl ?_
          refine pi_gno rfl rfl ?_
          refine pi_ro rfl (fun w hS => ro_pick rfl rfl rfl) ?_
          refine pi_nil (x_then (hK13 _ _ ?_))
          clear hK13 K13
          refine wc_condF rfl ?_
          refine c_skip (x_then (hK12 _ _ ?_))
          clear hK12 K12
          refine c_reg ?_ -- region 17 class.go:156
          refine wl (ro_loadAggB rfl ag_87 (hZ) rfl rfl) ?_
          refine wl (ro_loadAggB rfl ag_87 (hA) rfl rfl) ?_
          refine wl_call rfl en_140 (Join140) ?_
          rintro _ w14 ⟨rfl, F14⟩
          replace hF := hF.thenDrew.thenN F14
          replace hB := F14.blkN hB
          replace hZ := F14.blkN hZ
          replace hA := F14.blkN hA
          refine wl_puta rfl rfl (by simp [Value.oneCell', i64c, u64c, u8c, ptr]) sz_87 (rfl) hZ ((by simp)) (rfl) (fun w15 hZ F15 => ?_)
          replace hF := hF.thenDrew.thenO F15 (by first | exact .inr (by omega) | exact .inl rfl | exact .inl (by assumption))
          replace hB := F15.blkO hB (by omega)
          replace hA := F15.blkO hA (by omega)
          refine wl_nil (x_blk (x_then ?_))
          first | exact ⟨p.length - j6, by omega, j6, _, f6, ff, rfl, hcl, hB, V6, hZ, hF, kp _ ⟨rfl, rfl, rfl, rfl, trivial⟩⟩ | exact ⟨p.length - j4, by omega, j4, _, f4, ff, rfl, hcl, hB, V4, hZ, hF, kp _ ⟨rfl, rfl, rfl, rfl, trivial⟩⟩
        · skip
          have hn9 : p[j4 + 1]? = none := List.getElem?_eq_none h2
          rw [if_neg (by rw [hn9]; simp)] at hcl
          refine c_pi [(0, false), (1, false), (2, false), (3, false), (4, false), (5, false), (6, false), (7, false), (8, false), (9, false), (10, false), (11, false), (12, false), (13, false), (14, false), (15, false), (16, false), (17, false), (18, false), (19, false), (20, false), (21, false), (22, false), (23, false), (24, false), (25, false), (26, false), (27, false), (28, false), (29, false), (30, false), (31, false), (32, false), (33, false), (34, false), (35, false)] (SameH _) mixed (by kernel_rfl) rfl (by kernel_rfl) (po_then (po_then (po_blk (po_then (po_blk (po_then (po_bp))))))) (sameH_now _ _) ?_ -- region 9 class.go:143
          refine pi_ro rfl (fun w hS => ro_move rfl) ?_
          refine pi_ro rfl (fun w hS => ro_nilCheck rfl) ?_
          refine pi_ro rfl (fun w hS => ro_fieldAddr (k := 1) rfl fo_96_1) ?_
          refine pi_ro rfl (fun w hS => ro_loadB rfl sc_3 (Blk.of_heap hB hS) (cel_get' (by omega) hi4)) ?_
          refine pi_ro rfl (fun w hS => ro_arith rfl rfl rfl (Go.IntWalk.i64_in _ (by omega))) ?_
          refine pi_ro rfl (fun w hS => ro_move rfl) ?_
          refine pi_ro rfl (fun w hS => ro_nilCheck rfl) ?_
          refine pi_ro rfl (fun w hS => ro_fieldAddr (k := 0) rfl fo_96_0) ?_
          refine pi_ro rfl (fun w hS => ro_loadB rfl sc_9 (Blk.of_heap hB hS) (cel_get' (by omega) hp4)) ?_
          refine pi_ro rfl (fun w hS => ro_lenS rfl st_9) ?_
          refine pi_ro rfl (fun w hS => ro_cmp (r := false) rfl rfl (congrArg some (decide_eq_false (by omega)))) ?_
          refine pi_ro rfl (fun w hS => ro_move rfl) ?_
          refine pi_gno rfl rfl ?_
          refine pi_gno rfl rfl ?_
          refine pi_gno rfl rfl ?_
          refine pi_gno rfl rfl ?_
          refine pi_gno rfl rfl ?_
          refine pi_gno rfl rfl ?_
          refine pi_gno rfl rfl ?_
          refine pi_gno rfl rfl ?_
          refine pi_gno rfl rfl ?_
          refine pi_gno rfl rfl ?_
          refine pi_ro rfl (fun w hS => ro_pick rfl rfl rfl) ?_
          refine pi_ro rfl (fun w hS => ro_move rfl) ?_
          refine pi_gno rfl rfl ?_
          refine pi_gno rfl rfl ?_
          refine pi_gno rfl rfl ?_
          refine pi_gno rfl rfl ?_
          refine pi_gno rfl rfl ?_
          refine pi_gno rfl rfl ?_
          refine pi_gno rfl rfl ?_
          refine pi_gno rfl rfl ?_
          refine pi_gno rfl rfl ?_
          refine pi_gno rfl rfl ?_
          refine pi_gno rfl rfl ?_
          refine pi_ro rfl (fun w hS => ro_pick rfl rfl rfl) ?_
          refine pi_nil (x_then (hK13 _ _ ?_))
          clear hK13 K13
          refine wc_condF rfl ?_
          refine c_skip (x_then (hK12 _ _ ?_))
          clear hK12 K12
          refine c_reg ?_ -- region 17 class.go:156
          refine wl (ro_loadAggB rfl ag_87 (hZ) rfl rfl) ?_
          refine wl (ro_loadAggB rfl ag_87 (hA) rfl rfl) ?_
          refine wl_call rfl en_140 (Join140) ?_
          rintro _ w16 ⟨rfl, F16⟩
          replace hF := hF.thenDrew.thenN F16
          replace hB := F16.blkN hB
          replace hZ := F16.blkN hZ
          replace hA := F16.blkN hA
          refine wl_puta rfl rfl (by simp [Value.oneCell', i64c, u64c, u8c, ptr]) sz_87 (rfl) hZ ((by simp)) (rfl) (fun w17 hZ F17 => ?_)
          replace hF := hF.thenDrew.thenO F17 (by first | exact .inr (by omega) | exact .inl rfl | exact .inl (by assumption))
          replace hB := F17.blkO hB (by omega)
          replace hA := F17.blkO hA (by omega)
          refine wl_nil (x_blk (x_then ?_))
          first | exact ⟨p.length - j6, by omega, j6, _, f6, ff, rfl, hcl, hB, V6, hZ, hF, kp _ ⟨rfl, rfl, rfl, rfl, trivial⟩⟩ | exact ⟨p.length - j4, by omega, j4, _, f4, ff, rfl, hcl, hB, V4, hZ, hF, kp _ ⟨rfl, rfl, rfl, rfl, trivial⟩⟩
    · skip
      have hge6 : p.length ≤ i := List.getElem?_eq_none_iff.1 hcc6
      rw [hcc6] at hcl
      simp only at hcl
      refine c_pi [(0, false), (1, false), (2, false), (3, false), (4, false), (5, false), (6, false), (7, false), (8, false), (9, false), (10, false), (11, false), (12, false), (13, false), (14, false), (15, false), (16, false), (17, false), (18, false), (19, false), (20, false), (21, false)] (SameH _) mixed (by kernel_rfl) rfl (by kernel_rfl) (po_then (po_then (po_then (po_blk (po_then (po_bp)))))) (sameH_now _ _) ?_ -- region 6 class.go:138
      refine pi_ro rfl (fun w hS => ro_move rfl) ?_
      refine pi_ro rfl (fun w hS => ro_nilCheck rfl) ?_
      refine pi_ro rfl (fun w hS => ro_fieldAddr (k := 1) rfl fo_96_1) ?_
      refine pi_ro rfl (fun w hS => ro_loadB rfl sc_3 (Blk.of_heap hB hS) (cel_get' (by omega) hi3)) ?_
      refine pi_ro rfl (fun w hS => ro_move rfl) ?_
      refine pi_ro rfl (fun w hS => ro_nilCheck rfl) ?_
      refine pi_ro rfl (fun w hS => ro_fieldAddr (k := 0) rfl fo_96_0) ?_
      refine pi_ro rfl (fun w hS => ro_loadB rfl sc_9 (Blk.of_heap hB hS) (cel_get' (by omega) hp3)) ?_
      refine pi_ro rfl (fun w hS => ro_lenS rfl st_9) ?_
      refine pi_ro rfl (fun w hS => ro_cmp (r := false) rfl rfl (congrArg some (decide_eq_false (by omega)))) ?_
      refine pi_ro rfl (fun w hS => ro_move rfl) ?_
      refine pi_gno rfl rfl ?_
      refine pi_gno rfl rfl ?_
      refine pi_gno rfl rfl ?_
      refine pi_gno rfl rfl ?_
      refine pi_gno rfl rfl ?_
      refine pi_gno rfl rfl ?_
      refine pi_gno rfl rfl ?_
      refine pi_gno rfl rfl ?_
      refine pi_gno rfl rfl ?_
      refine pi_gno rfl rfl ?_
      refine pi_ro rfl (fun w hS => ro_pick rfl rfl rfl) ?_
      refine pi_nil (x_then (hK8 _ _ ?_))
      clear hK8 K8
      refine wc_condF rfl ?_
      refine c_exit (x_thenX (x_thenX (x_blkX (x_then (hK6 _ _ ?_)))))
      clear hK7 K7 hK6 K6
      refine c_seq (fun K24 hK24 => ?_)
      refine c_seq (fun K25 hK25 => ?_)
      refine c_pi [(0, false), (1, false), (2, false), (3, false), (4, false), (5, false), (6, false), (7, false), (8, false), (9, false)] (SameH _) mixed (by kernel_rfl) rfl (by kernel_rfl) (po_then (po_then (po_bp))) (sameH_now _ _) ?_ -- region 18 class.go:158
      refine pi_ro rfl (fun w hS => ro_move rfl) ?_
      refine pi_ro rfl (fun w hS => ro_nilCheck rfl) ?_
      refine pi_ro rfl (fun w hS => ro_fieldAddr (k := 1) rfl fo_96_1) ?_
      refine pi_ro rfl (fun w hS => ro_loadB rfl sc_3 (Blk.of_heap hB hS) (cel_get' (by omega) hi3)) ?_
      refine pi_ro rfl (fun w hS => ro_move rfl) ?_
      refine pi_ro rfl (fun w hS => ro_nilCheck rfl) ?_
      refine pi_ro rfl (fun w hS => ro_fieldAddr (k := 0) rfl fo_96_0) ?_
      refine pi_ro rfl (fun w hS => ro_loadB rfl sc_9 (Blk.of_heap hB hS) (cel_get' (by omega) hp3)) ?_
      refine pi_ro rfl (fun w hS => ro_lenS rfl st_9) ?_
      refine pi_ro rfl (fun w hS => ro_cmp (r := true) rfl rfl (congrArg some (decide_eq_true (by omega)))) ?_
      refine pi_nil (x_then (hK25 _ _ ?_))
      clear hK25 K25
      refine wc_condT rfl ?_
      refine c_seq (fun K26 hK26 => ?_)
      refine c_reg ?_ -- region 19 class.go:159
      refine wl (ro_move rfl) ?_
      refine wl (ro_move rfl) ?_
      refine wl_call rfl en_97 (fail97 hB) ?_
      rintro _ w9 ⟨rfl, hB, F9⟩
      replace hF := hF.thenDrew.trans F9
      have hfin : RP xb p (classX p σ) _ := RP.er (e := (2, σ.i)) hB (err97 V3) (hXe _ hcl.symm)
      refine wl_nil (x_then (hK26 _ _ ?_))
      clear hK26 K26
      refine c_ret (x_thenR ?_)
      refine bp_ret Tryz.results125 rfl ?_
      exact ⟨rfl, hfin, hF⟩
    · skip
      have hlt6 := get_lt hcc6
      subst h93
      rw [hcc6] at hcl
      simp only [if_true] at hcl
      refine c_pi [(0, false), (1, false), (2, false), (3, false), (4, false), (5, false), (6, false), (7, false), (8, false), (9, false), (10, false), (11, false), (12, false), (13, false), (14, false), (15, false), (16, false), (17, false), (18, false), (19, false), (20, false), (21, false)] (SameH _) mixed (by kernel_rfl) rfl (by kernel_rfl) (po_then (po_then (po_then (po_blk (po_then (po_bp)))))) (sameH_now _ _) ?_ -- region 6 class.go:138
      refine pi_ro rfl (fun w hS => ro_move rfl) ?_
      refine pi_ro rfl (fun w hS => ro_nilCheck rfl) ?_
      refine pi_ro rfl (fun w hS => ro_fieldAddr (k := 1) rfl fo_96_1) ?_
      refine pi_ro rfl (fun w hS => ro_loadB rfl sc_3 (Blk.of_heap hB hS) (cel_get' (by omega) hi3)) ?_
      refine pi_ro rfl (fun w hS => ro_move rfl) ?_
      refine pi_ro rfl (fun w hS => ro_nilCheck rfl) ?_
      refine pi_ro rfl (fun w hS => ro_fieldAddr (k := 0) rfl fo_96_0) ?_
      refine pi_ro rfl (fun w hS => ro_loadB rfl sc_9 (Blk.of_heap hB hS) (cel_get' (by omega) hp3)) ?_
      refine pi_ro rfl (fun w hS => ro_lenS rfl st_9) ?_
      refine pi_ro rfl (fun w hS => ro_cmp (r := true) rfl rfl (congrArg some (decide_eq_true (by omega)))) ?_
      refine pi_ro rfl (fun w hS => ro_move rfl) ?_
      refine pi_gyes rfl rfl (fun w hS => ro_move rfl) ?_
      refine pi_gyes rfl rfl (fun w hS => ro_nilCheck rfl) ?_
      refine pi_gyes rfl rfl (fun w hS => ro_fieldAddr (k := 0) rfl fo_96_0) ?_
      refine pi_gyes rfl rfl (fun w hS => ro_loadB rfl sc_9 (Blk.of_heap hB hS) (cel_get' (by omega) hp3)) ?_
      refine pi_gyes rfl rfl (fun w hS => ro_move rfl) ?_
      refine pi_gyes rfl rfl (fun w hS => ro_nilCheck rfl) ?_
      refine pi_gyes rfl rfl (fun w hS => ro_fieldAddr (k := 1) rfl fo_96_1) ?_
      refine pi_gyes rfl rfl (fun w hS => ro_loadB rfl sc_3 (Blk.of_heap hB hS) (cel_get' (by omega) hi3)) ?_
      refine pi_gyes rfl rfl (fun w hS => ro_indexS rfl rfl st_9 (rfl) (hcc6)) ?_
      refine pi_gyes rfl rfl (fun w hS => ro_cmp (r := false) rfl rfl rfl) ?_
      refine pi_ro rfl (fun w hS => ro_pick rfl rfl rfl) ?_
      refine pi_nil (x_then (hK8 _ _ ?_))
      clear hK8 K8
      refine wc_condF rfl ?_
      refine c_exit (x_thenX (x_thenX (x_blkX (x_then (hK6 _ _ ?_)))))
      clear hK7 K7 hK6 K6
      refine c_seq (fun K27 hK27 => ?_)
      refine c_seq (fun K28 hK28 => ?_)
      refine c_pi [(0, false), (1, false), (2, false), (3, false), (4, false), (5, false), (6, false), (7, false), (8, false), (9, false)] (SameH _) mixed (by kernel_rfl) rfl (by kernel_rfl) (po_then (po_then (po_bp))) (sameH_now _ _) ?_ -- region 18 class.go:158
      refine pi_ro rfl (fun w hS => ro_move rfl) ?_
      refine pi_ro rfl (fun w hS => ro_nilCheck rfl) ?_
      refine pi_ro rfl (fun w hS => ro_fieldAddr (k := 1) rfl fo_96_1) ?_
      refine pi_ro rfl (fun w hS => ro_loadB rfl sc_3 (Blk.of_heap hB hS) (cel_get' (by omega) hi3)) ?_
      refine pi_ro rfl (fun w hS => ro_move rfl) ?_
      refine pi_ro rfl (fun w hS => ro_nilCheck rfl) ?_
      refine pi_ro rfl (fun w hS => ro_fieldAddr (k := 0) rfl fo_96_0) ?_
      refine pi_ro rfl (fun w hS => ro_loadB rfl sc_9 (Blk.of_heap hB hS) (cel_get' (by omega) hp3)) ?_
      refine pi_ro rfl (fun w hS => ro_lenS rfl st_9) ?_
      refine pi_ro rfl (fun w hS => ro_cmp (r := false) rfl rfl (congrArg some (decide_eq_false (by omega)))) ?_
      refine pi_nil (x_then (hK28 _ _ ?_))
      clear hK28 K28
      refine wc_condF rfl ?_
      refine c_skip (x_then (hK27 _ _ ?_))
      clear hK27 K27
      refine forget [(0, _), (3, _), (4, _)] ⟨rfl, rfl, rfl, trivial⟩ (fun e => ?_)
      refine c_seq (fun K29 hK29 => ?_)
      refine c_reg ?_ -- region 20 class.go:162
      refine wl (ro_move rfl) ?_
      refine wl (ro_nilCheck rfl) ?_
      refine wl (ro_fieldAddr (k := 1) rfl fo_96_1) ?_
      refine wl (ro_loadB rfl sc_3 (hB) (cel_get' (by omega) hi3)) ?_
      refine wl (ro_arith rfl rfl rfl (Go.IntWalk.i64_in _ (by omega))) ?_
      refine wl (ro_nilCheck rfl) ?_
      refine wl (ro_fieldAddr (k := 1) rfl fo_96_1) ?_
      refine wl_put rfl rfl rfl sz_3 hB ((cel_lt (by omega))) ((cel_put 1 (by omega))) (fun w18 hB F18 => ?_)
      replace hF := hF.thenDrew.thenO F18 (by first | exact .inr (by omega) | exact .inl rfl | exact .inl (by assumption))
      replace hZ := F18.blkO hZ (by omega)
      have V7 : PV (pt f3 1 (i64c (i + 1))) p { σ with i := i + 1 } T := V3.setI (i := i + 1) (by omega)
      refine wl_nil (x_then (hK29 _ _ ?_))
      clear hK29 K29
      refine c_seq (fun K30 hK30 => ?_)
      refine c_seq (fun K31 hK31 => ?_)
      refine c_reg ?_ -- region 21 class.go:163
      refine wl (ro_move rfl) ?_
      refine wl_nil (x_then (hK31 _ _ ?_))
      clear hK31 K31
      refine wc_cond rfl (fun hc180 => ?_) (fun hc180 => ?_)
      · try simp only [decide_eq_true_eq, decide_eq_false_iff_not, Bool.not_eq_true', Bool.not_eq_false', Bool.not_eq_eq_eq_not, Bool.not_true, Bool.not_false, beq_iff_eq, bne_iff_ne, ne_eq, beq_eq_false_iff_ne, bne_eq_false_iff_eq, gt_iff_lt, ge_iff_le, Int.not_lt, Int.not_le] at hc180
        have hNN : clsN p σ.i = true := hc180
        refine c_reg ?_ -- region 22 class.go:164
        refine wl (ro_loadAggB rfl ag_87 (hZ) rfl rfl) ?_
        refine wl_call rfl en_129 (Not129) ?_
        rintro _ w19 ⟨rfl, F19⟩
        replace hF := hF.thenDrew.thenN F19
        replace hB := F19.blkN hB
        replace hZ := F19.blkN hZ
        refine wl_puta rfl rfl (by simp [Value.oneCell', i64c, u64c, u8c, ptr]) sz_87 (rfl) hZ ((by simp)) (rfl) (fun w20 hZ F20 => ?_)
        replace hF := hF.thenDrew.thenO F20 (by first | exact .inr (by omega) | exact .inl rfl | exact .inl (by assumption))
        replace hB := F20.blkO hB (by omega)
        refine wl_nil (x_then (hK30 _ _ ?_))
        clear hK30 K30
        refine c_reg ?_ -- region 23 class.go:166
        refine wl (ro_move rfl) ?_
        refine wl (ro_loadAggB rfl ag_87 (hZ) rfl rfl) ?_
        refine wl_call rfl en_127 (leaf127 (k := 1) hB V7 (r := RE.set (cpl Z)) (Z := cpl Z) rfl) ?_
        rintro _ w9 ⟨rfl, hR9, F9⟩
        replace hF := hF.thenDrew.trans F9
        have hfin : RP xb p (classX p σ) w9 := by rw [hXo _ _ hcl.symm, hNN]; exact hR9
        refine wl_nil ?_
        refine bp_end Tryz.results125 rfl ?_
        exact ⟨rfl, hfin, hF⟩
      · try simp only [decide_eq_true_eq, decide_eq_false_iff_not, Bool.not_eq_true', Bool.not_eq_false', Bool.not_eq_eq_eq_not, Bool.not_true, Bool.not_false, beq_iff_eq, bne_iff_ne, ne_eq, beq_eq_false_iff_ne, bne_eq_false_iff_eq, gt_iff_lt, ge_iff_le, Int.not_lt, Int.not_le] at hc180
        have hNN : clsN p σ.i = false := hc180
        refine c_skip (x_then (hK30 _ _ ?_))
        clear hK30 K30
        refine c_reg ?_ -- region 23 class.go:166
        refine wl (ro_move rfl) ?_
        refine wl (ro_loadAggB rfl ag_87 (hZ) rfl rfl) ?_
        refine wl_call rfl en_127 (leaf127 (k := 1) hB V7 (r := RE.set (Z)) (Z := Z) rfl) ?_
        rintro _ w9 ⟨rfl, hR9, F9⟩
        replace hF := hF.thenDrew.trans F9
        have hfin : RP xb p (classX p σ) w9 := by rw [hXo _ _ hcl.symm, hNN]; exact hR9
        refine wl_nil ?_
        refine bp_end Tryz.results125 rfl ?_
        exact ⟨rfl, hfin, hF⟩
  · skip
    have hlt := get_lt hcc
    refine c_pi [(0, false), (1, false), (2, false), (3, false), (4, false), (5, false), (6, false), (7, false), (8, false), (9, false), (10, false), (11, false), (12, false), (13, false), (14, false), (15, false), (16, false), (17, false), (18, false), (19, false), (20, false), (21, false), (22, false)] (SameH _) mixed (by kernel_rfl) rfl (by kernel_rfl) (po_then (po_bp)) (sameH_now _ _) ?_ -- region 2 class.go:133
    refine pi_ro rfl (fun w hS => ro_move rfl) ?_
    refine pi_ro rfl (fun w hS => ro_nilCheck rfl) ?_
    refine pi_ro rfl (fun w hS => ro_fieldAddr (k := 1) rfl fo_96_1) ?_
    refine pi_ro rfl (fun w hS => ro_loadB rfl sc_3 (Blk.of_heap hB hS) (cel_get' (by omega) hi1)) ?_
    refine pi_ro rfl (fun w hS => ro_move rfl) ?_
    refine pi_ro rfl (fun w hS => ro_nilCheck rfl) ?_
    refine pi_ro rfl (fun w hS => ro_fieldAddr (k := 0) rfl fo_96_0) ?_
    refine pi_ro rfl (fun w hS => ro_loadB rfl sc_9 (Blk.of_heap hB hS) (cel_get' (by omega) hp1)) ?_
    refine pi_ro rfl (fun w hS => ro_lenS rfl st_9) ?_
    refine pi_ro rfl (fun w hS => ro_cmp (r := true) rfl rfl (congrArg some (decide_eq_true (by omega)))) ?_
    refine pi_ro rfl (fun w hS => ro_move rfl) ?_
    refine pi_gyes rfl rfl (fun w hS => ro_move rfl) ?_
    refine pi_gyes rfl rfl (fun w hS => ro_nilCheck rfl) ?_
    refine pi_gyes rfl rfl (fun w hS => ro_fieldAddr (k := 0) rfl fo_96_0) ?_
    refine pi_gyes rfl rfl (fun w hS => ro_loadB rfl sc_9 (Blk.of_heap hB hS) (cel_get' (by omega) hp1)) ?_
    refine pi_gyes rfl rfl (fun w hS => ro_move rfl) ?_
    refine pi_gyes rfl rfl (fun w hS => ro_nilCheck rfl) ?_
    refine pi_gyes rfl rfl (fun w hS => ro_fieldAddr (k := 1) rfl fo_96_1) ?_
    refine pi_gyes rfl rfl (fun w hS => ro_loadB rfl sc_3 (Blk.of_heap hB hS) (cel_get' (by omega) hi1)) ?_
    refine pi_gyes rfl rfl (fun w hS => ro_indexS rfl rfl st_9 (rfl) (hcc)) ?_
    refine pi_gyes rfl rfl (fun w hS => ro_cmp (r := decide (c = 94)) rfl rfl (congrArg some (u8eq c 94))) ?_
    refine pi_ro rfl (fun w hS => ro_pick rfl rfl rfl) ?_
    refine pi_ro rfl (fun w hS => ro_assign rfl) ?_
    refine pi_nil (x_then (hK3 _ _ ?_))
    clear hK3 K3
    refine c_mid (fun a' w' => ∃ f1, FB w'.heap xb 325 f1 96 ∧ PV f1 p { σ with i := clsI p σ.i } T ∧ Fram (one xb) w w' ∧ ∃ e, a' = Fr 186 (upds e [(0, ptr xb), (2, i64c σ.i), (3, .bool (clsN p σ.i))]) []) ?_ ?_
    · skip
      refine c_seq (fun K32 hK32 => ?_)
      refine c_reg ?_ -- region 3 class.go:134
      refine wl (ro_move rfl) ?_
      refine wl_nil (x_then (hK32 _ _ ?_))
      clear hK32 K32
      refine wc_cond rfl (fun hc43 => ?_) (fun hc43 => ?_)
      · try simp only [decide_eq_true_eq, decide_eq_false_iff_not, Bool.not_eq_true', Bool.not_eq_false', Bool.not_eq_eq_eq_not, Bool.not_true, Bool.not_false, beq_iff_eq, bne_iff_ne, ne_eq, beq_eq_false_iff_ne, bne_eq_false_iff_eq, gt_iff_lt, ge_iff_le, Int.not_lt, Int.not_le] at hc43
        have h94 : c = 94 := by simpa using hc43
        subst h94
        have hN : clsN p σ.i = true := by unfold clsN; rw [hcc]; rfl
        have hI : clsI p σ.i = σ.i + 2 := by unfold clsI; rw [if_pos hcc]
        have hn3 : (bif true then decide ((94 : UInt8) = 94) else false) = true := rfl
        refine c_reg ?_ -- region 4 class.go:135
        refine wl (ro_move rfl) ?_
        refine wl (ro_nilCheck rfl) ?_
        refine wl (ro_fieldAddr (k := 1) rfl fo_96_1) ?_
        refine wl (ro_loadB rfl sc_3 (hB) (cel_get' (by omega) hi1)) ?_
        refine wl (ro_arith rfl rfl rfl (Go.IntWalk.i64_in _ (by omega))) ?_
        refine wl (ro_nilCheck rfl) ?_
        refine wl (ro_fieldAddr (k := 1) rfl fo_96_1) ?_
        refine wl_put rfl rfl rfl sz_3 hB ((cel_lt (by omega))) ((cel_put 1 (by omega))) (fun w21 hB F21 => ?_)
        replace hF := hF.thenDrew.thenO F21 (by first | exact .inr (by omega) | exact .inl rfl | exact .inl (by assumption))
        refine wl_nil (x_then ?_)
        exact ⟨_, hB, by rw [hI]; exact V1.setI (i := σ.i + 2) (by omega), hF, kp _ ⟨rfl, rfl, by rw [hN]; rfl, trivial⟩⟩
      · try simp only [decide_eq_true_eq, decide_eq_false_iff_not, Bool.not_eq_true', Bool.not_eq_false', Bool.not_eq_eq_eq_not, Bool.not_true, Bool.not_false, beq_iff_eq, bne_iff_ne, ne_eq, beq_eq_false_iff_ne, bne_eq_false_iff_eq, gt_iff_lt, ge_iff_le, Int.not_lt, Int.not_le] at hc43
        refine c_skip (x_then ?_)
        have h94 : c ≠ 94 := by simpa using hc43
        have hN : clsN p σ.i = false := by unfold clsN; rw [hcc]; exact decide_eq_false (by simpa using h94)
        have hI : clsI p σ.i = σ.i + 1 := by unfold clsI; rw [hcc, if_neg (by simpa using h94)]
        exact ⟨_, hB, by rw [hI]; exact V1, hF.thenDrew, kp _ ⟨rfl, rfl, by rw [hN]; show some (Value.bool (decide (c = 94))) = _; rw [decide_eq_false h94], trivial⟩⟩
    clear hB hF hi1 hp1 V1
    rintro a' w2 ⟨f2, hB, V2, hF, e, rfl⟩
    refine c_seq (fun K33 hK33 => ?_)
    refine c_reg ?_ -- region 5 class.go:137
    refine wl_new (ze_87) (fun sb w22 hbsb hZ F22 => ?_)
    have hbssb := Nat.le_trans hF.size hbsb
    have hnexbsb : xb < sb := Nat.lt_of_lt_of_le hB.lt hbsb
    replace hF := hF.thenDrew.thenN F22
    replace hB := F22.blkN hB
    refine wl_nil (x_then (hK33 _ _ ?_))
    clear hK33 K33
    refine forget [(0, _), (2, _), (3, _), (4, _)] ⟨rfl, rfl, rfl, rfl, trivial⟩ (fun e => ?_)
    refine c_seq (fun K34 hK34 => ?_)
    refine c_block ?_
    -- loop@r6: live slots [0, 2, 3, 4]
    refine c_loopG (fun m a' w' => ∃ (i : Nat) (Z : Nat) (f1 : Nat → Value) (ff : Nat), m = p.length - i ∧ clsF p σ.i ff i Z = clsR p σ.i ∧ FB w'.heap xb 325 f1 96 ∧ PV f1 p { σ with i := i } T ∧ Blk w'.heap sb (setC Z) 87 ∧ Fram (one xb) w w' ∧ ∃ e, a' = Fr 186 (upds e [(0, ptr xb), (2, i64c σ.i), (3, .bool (clsN p σ.i)), (4, ptr sb)]) []) (p.length - clsI p σ.i) ⟨clsI p σ.i, 0, f2, p.length + 1, rfl, rfl, hB, V2, by rw [setC_zero]; exact hZ, hF, kp _ ⟨rfl, rfl, rfl, rfl, trivial⟩⟩ ?_
    clear hB hF hZ V2
    rintro m a' w3 ⟨i, Z, f3, ff, rfl, hcl, hB, V3, hZ, hF, e, rfl⟩
    have hi3 : f3 1 = i64c i := V3.i1
    have hp3 := V3.p0
    have hil3 : i ≤ p.length := V3.il
    obtain ⟨ff, rfl⟩ : ∃ k, ff = k + 1 := by
      cases ff with
      | zero => exact absurd rfl (hRe (0, 0) hcl.symm)
      | succ k => exact ⟨k, rfl⟩
    unfold clsF at hcl
    refine c_seq (fun K35 hK35 => ?_)
    refine c_seq (fun K36 hK36 => ?_)
    rcases hcc6 : p[i]? with _ | c6
    rotate_left
    by_cases h93 : c6 = 93
    rotate_left
    · skip
      have hlt6 := get_lt hcc6
      rw [hcc6] at hcl
      simp only [h93, if_false] at hcl
      refine c_pi [(0, false), (1, false), (2, false), (3, false), (4, false), (5, false), (6, false), (7, false), (8, false), (9, false), (10, false), (11, false), (12, false), (13, false), (14, false), (15, false), (16, false), (17, false), (18, false), (19, false), (20, false), (21, false)] (SameH _) mixed (by kernel_rfl) rfl (by kernel_rfl) (po_then (po_then (po_then (po_blk (po_then (po_bp)))))) (sameH_now _ _) ?_ -- region 6 class.go:138
      refine pi_ro rfl (fun w hS => ro_move rfl) ?_
      refine pi_ro rfl (fun w hS => ro_nilCheck rfl) ?_
      refine pi_ro rfl (fun w hS => ro_fieldAddr (k := 1) rfl fo_96_1) ?_
      refine pi_ro rfl (fun w hS => ro_loadB rfl sc_3 (Blk.of_heap hB hS) (cel_get' (by omega) hi3)) ?_
      refine pi_ro rfl (fun w hS => ro_move rfl) ?_
      refine pi_ro rfl (fun w hS => ro_nilCheck rfl) ?_
      refine pi_ro rfl (fun w hS => ro_fieldAddr (k := 0) rfl fo_96_0) ?_
      refine pi_ro rfl (fun w hS => ro_loadB rfl sc_9 (Blk.of_heap hB hS) (cel_get' (by omega) hp3)) ?_
      refine pi_ro rfl (fun w hS => ro_lenS rfl st_9) ?_
      refine pi_ro rfl (fun w hS => ro_cmp (r := true) rfl rfl (congrArg some (decide_eq_true (by omega)))) ?_
      refine pi_ro rfl (fun w hS => ro_move rfl) ?_
      refine pi_gyes rfl rfl (fun w hS => ro_move rfl) ?_
      refine pi_gyes rfl rfl (fun w hS => ro_nilCheck rfl) ?_
      refine pi_gyes rfl rfl (fun w hS => ro_fieldAddr (k := 0) rfl fo_96_0) ?_
      refine pi_gyes rfl rfl (fun w hS => ro_loadB rfl sc_9 (Blk.of_heap hB hS) (cel_get' (by omega) hp3)) ?_
      refine pi_gyes rfl rfl (fun w hS => ro_move rfl) ?_
      refine pi_gyes rfl rfl (fun w hS => ro_nilCheck rfl) ?_
      refine pi_gyes rfl rfl (fun w hS => ro_fieldAddr (k := 1) rfl fo_96_1) ?_
      refine pi_gyes rfl rfl (fun w hS => ro_loadB rfl sc_3 (Blk.of_heap hB hS) (cel_get' (by omega) hi3)) ?_
      refine pi_gyes rfl rfl (fun w hS => ro_indexS rfl rfl st_9 (rfl) (hcc6)) ?_
      refine pi_gyes rfl rfl (fun w hS => ro_cmp (r := true) rfl rfl (congrArg some ((u8ne c6 93).trans (decide_eq_true h93)))) ?_
      refine pi_ro rfl (fun w hS => ro_pick rfl rfl rfl) ?_
      refine pi_nil (x_then (hK36 _ _ ?_))
      clear hK36 K36
      refine wc_condT rfl ?_
      refine c_skip (x_then (hK35 _ _ ?_))
      clear hK35 K35
      refine c_block ?_
      refine forget [(0, _), (2, _), (3, _), (4, _), (62, _), (63, _), (64, _), (65, _), (66, _), (67, _), (68, _), (69, _), (70, _), (71, _)] ⟨rfl, rfl, rfl, rfl, rfl, rfl, rfl, rfl, rfl, rfl, rfl, rfl, rfl, rfl, trivial⟩ (fun e => ?_)
      refine c_seq (fun K37 hK37 => ?_)
      refine c_reg ?_ -- region 7 class.go:139
      refine wl (ro_move rfl) ?_
      refine wl_call rfl en_139 (item139 hB V3 hcc6) ?_
      rintro r w4 ⟨⟨Z4, b4, o4, f4, ec4, rfl, hB, hec4, hP4⟩, F4⟩
      replace hF := hF.thenDrew.trans F4
      replace hZ := F4.blkO hZ (by omega)
      refine wl (ro_move rfl) ?_
      refine wl (ro_extract rfl rfl) ?_
      refine wl (ro_extract rfl rfl) ?_
      refine wl (ro_extract rfl rfl) ?_
      refine wl_new (ze_87) (fun ab w23 hbab hA F23 => ?_)
      have hbsab := Nat.le_trans hF.size hbab
      have hnexbab : xb < ab := Nat.lt_of_lt_of_le hB.lt hbab
      have hnesbab : sb < ab := Nat.lt_of_lt_of_le hZ.lt hbab
      replace hF := hF.thenDrew.thenN F23
      replace hB := F23.blkN hB
      replace hZ := F23.blkN hZ
      refine wl_puta rfl rfl (by simp [Value.oneCell', i64c, u64c, u8c, ptr]) sz_87 (rfl) hA ((by simp)) (rfl) (fun w24 hA F24 => ?_)
      replace hF := hF.thenDrew.thenO F24 (by first | exact .inr (by omega) | exact .inl rfl | exact .inl (by assumption))
      replace hB := F24.blkO hB (by omega)
      replace hZ := F24.blkO hZ (by omega)
      refine wl (ro_assign rfl) ?_
      refine wl (ro_assign rfl) ?_
      refine wl_nil (x_then (hK37 _ _ ?_))
      clear hK37 K37
      refine c_seq (fun K38 hK38 => ?_)
      refine c_seq (fun K39 hK39 => ?_)
      refine c_reg ?_ -- region 8 class.go:140
      refine wl (ro_move rfl) ?_
      refine wl (ro_nilCheck rfl) ?_
      refine wl (ro_fieldAddr (k := 323) rfl fo_96_8) ?_
      refine wl (ro_loadB rfl sc_53 (hB) (cel_get' (by omega) hec4)) ?_
      refine wl (ro_cmp (r := decide (ec4 ≠ 0)) rfl rfl (congrArg some (bnec ec4 0))) ?_
      refine wl_nil (x_then (hK39 _ _ ?_))
      clear hK39 K39
      refine wc_cond rfl (fun hc83 => ?_) (fun hc83 => ?_)
      · try simp only [decide_eq_true_eq, decide_eq_false_iff_not, Bool.not_eq_true', Bool.not_eq_false', Bool.not_eq_eq_eq_not, Bool.not_true, Bool.not_false, beq_iff_eq, bne_iff_ne, ne_eq, beq_eq_false_iff_ne, bne_eq_false_iff_eq, gt_iff_lt, ge_iff_le, Int.not_lt, Int.not_le] at hc83
        have hec0 : ec4 ≠ 0 := by simpa using hc83
        obtain ⟨e4, hX4, he4, E4⟩ : ∃ e, item p i c6 = .error e ∧ e.1 = ec4 ∧ ERR f4 e := by rcases hP4 with h | h; exact absurd h.1 hec0; exact h.2
        rw [hX4] at hcl
        simp only at hcl
        have hfin : RP xb p (classX p σ) _ := RP.er hB E4 (hXe _ hcl.symm)
        refine c_ret (x_thenR (x_blkR (x_thenR (x_blkR (x_thenR ?_)))))
        refine bp_ret Tryz.results125 rfl ?_
        exact ⟨rfl, hfin, hF⟩
      · try simp only [decide_eq_true_eq, decide_eq_false_iff_not, Bool.not_eq_true', Bool.not_eq_false', Bool.not_eq_eq_eq_not, Bool.not_true, Bool.not_false, beq_iff_eq, bne_iff_ne, ne_eq, beq_eq_false_iff_ne, bne_eq_false_iff_eq, gt_iff_lt, ge_iff_le, Int.not_lt, Int.not_le] at hc83
        have hec0 : ec4 = 0 := by simpa using hc83
        obtain ⟨j4, hX4, V4⟩ : ∃ j, item p i c6 = .ok (Z4, o4, b4.toNat, j) ∧ PV f4 p { σ with i := j } T := by rcases hP4 with h | h; exact h.2; exact absurd hec0 h.1
        clear hP4
        rw [hX4] at hcl
        simp only at hcl
        have hi4 : f4 1 = i64c j4 := V4.i1
        have hp4 := V4.p0
        have hil4 : j4 ≤ p.length := V4.il
        have hij := (item_ok hlt6 hX4).2.2
        have hcase : (p[j4]? = some 45 ∧ ∃ c, p[j4 + 1]? = some c ∧ c ≠ 93) ∨ (p[j4]? = some 45 ∧ p[j4 + 1]? = some 93) ∨ (∃ c, p[j4]? = some c ∧ c ≠ 45 ∧ j4 + 1 < p.length) ∨ p.length ≤ j4 + 1 := by
          by_cases h1 : j4 + 1 < p.length
          · have e1 : p[j4]? = some (p[j4]'(by omega)) := List.getElem?_eq_getElem (by omega)
            have e2 : p[j4 + 1]? = some (p[j4 + 1]'h1) := List.getElem?_eq_getElem h1
            by_cases h2 : p[j4]'(by omega) = 45
            · rw [h2] at e1
              by_cases h3 : p[j4 + 1]'h1 = 93
              · rw [h3] at e2; exact .inr (.inl ⟨e1, e2⟩)
              · exact .inl ⟨e1, _, e2, h3⟩
            · exact .inr (.inr (.inl ⟨_, e1, h2, h1⟩))
          · exact .inr (.inr (.inr (by omega)))
        refine c_skip (x_then (hK38 _ _ ?_))
        clear hK38 K38
        refine c_seq (fun K40 hK40 => ?_)
        refine c_seq (fun K41 hK41 => ?_)
        rcases hcase with ⟨h1, c9, h2, hc9⟩ | ⟨h1, h2⟩ | ⟨c9, h1, hc9, h2⟩ | h2
        · skip
          have hlt9 := get_lt h2
          rw [if_pos ⟨h1, by rw [h2]; simp, by rw [h2]; simpa using hc9⟩, h2] at hcl
          simp only [Option.getD_some] at hcl
          refine c_pi [(0, false), (1, false), (2, false), (3, false), (4, false), (5, false), (6, false), (7, false), (8, false), (9, false), (10, false), (11, false), (12, false), (13, false), (14, false), (15, false), (16, false), (17, false), (18, false), (19, false), (20, false), (21, false), (22, false), (23, false), (24, false), (25, false), (26, false), (27, false), (28, false), (29, false), (30, false), (31, false), (32, false), (33, false), (34, false), (35, false)] (SameH _) mixed (by kernel_rfl) rfl (by kernel_rfl) (po_then (po_then (po_blk (po_then (po_blk (po_then (po_bp))))))) (sameH_now _ _) ?_ -- region 9 class.go:143
          refine pi_ro rfl (fun w hS => ro_move rfl) ?_
          refine pi_ro rfl (fun w hS => ro_nilCheck rfl) ?_
          refine pi_ro rfl (fun w hS => ro_fieldAddr (k := 1) rfl fo_96_1) ?_
          refine pi_ro rfl (fun w hS => ro_loadB rfl sc_3 (Blk.of_heap hB hS) (cel_get' (by omega) hi4)) ?_
          refine pi_ro rfl (fun w hS => ro_arith rfl rfl rfl (Go.IntWalk.i64_in _ (by omega))) ?_
          refine pi_ro rfl (fun w hS => ro_move rfl) ?_
          refine pi_ro rfl (fun w hS => ro_nilCheck rfl) ?_
          refine pi_ro rfl (fun w hS => ro_fieldAddr (k := 0) rfl fo_96_0) ?_
          refine pi_ro rfl (fun w hS => ro_loadB rfl sc_9 (Blk.of_heap hB hS) (cel_get' (by omega) hp4)) ?_
          refine pi_ro rfl (fun w hS => ro_lenS rfl st_9) ?_
          refine pi_ro rfl (fun w hS => ro_cmp (r := true) rfl rfl (congrArg some (decide_eq_true (by omega)))) ?_
          refine pi_ro rfl (fun w hS => ro_move rfl) ?_
          refine pi_gyes rfl rfl (fun w hS => ro_move rfl) ?_
          refine pi_gyes rfl rfl (fun w hS => ro_nilCheck rfl) ?_
          refine pi_gyes rfl rfl (fun w hS => ro_fieldAddr (k := 0) rfl fo_96_0) ?_
          refine pi_gyes rfl rfl (fun w hS => ro_loadB rfl sc_9 (Blk.of_heap hB hS) (cel_get' (by omega) hp4)) ?_
          refine pi_gyes rfl rfl (fun w hS => ro_move rfl) ?_
          refine pi_gyes rfl rfl (fun w hS => ro_nilCheck rfl) ?_
          refine pi_gyes rfl rfl (fun w hS => ro_fieldAddr (k := 1) rfl fo_96_1) ?_
          refine pi_gyes rfl rfl (fun w hS => ro_loadB rfl sc_3 (Blk.of_heap hB hS) (cel_get' (by omega) hi4)) ?_
          refine pi_gyes rfl rfl (fun w hS => ro_indexS rfl rfl st_9 (rfl) (h1)) ?_
          refine pi_gyes rfl rfl (fun w hS => ro_cmp (r := true) rfl rfl rfl) ?_
          refine pi_ro rfl (fun w hS => ro_pick rfl rfl rfl) ?_
          refine pi_ro rfl (fun w hS => ro_move rfl) ?_
          refine pi_gyes rfl rfl (fun w hS => ro_move rfl) ?_
          refine pi_gyes rfl rfl (fun w hS => ro_nilCheck rfl) ?_
          refine pi_gyes rfl rfl (fun w hS => ro_fieldAddr (k := 0) rfl fo_96_0) ?_
          refine pi_gyes rfl rfl (fun w hS => ro_loadB rfl sc_9 (Blk.of_heap hB hS) (cel_get' (by omega) hp4)) ?_
          refine pi_gyes rfl rfl (fun w hS => ro_move rfl) ?_
          refine pi_gyes rfl rfl (fun w hS => ro_nilCheck rfl) ?_
          refine pi_gyes rfl rfl (fun w hS => ro_fieldAddr (k := 1) rfl fo_96_1) ?_
          refine pi_gyes rfl rfl (fun w hS => ro_loadB rfl sc_3 (Blk.of_heap hB hS) (cel_get' (by omega) hi4)) ?_
          refine pi_gyes rfl rfl (fun w hS => ro_arith rfl rfl rfl (Go.IntWalk.i64_in _ (by omega))) ?_
          refine pi_gyes rfl rfl (fun w hS => ro_indexS rfl rfl st_9 ((show _ = ((j4 + 1 : Nat) : Int) by omega)) (h2)) ?_
          refine pi_gyes rfl rfl (fun w hS => ro_cmp (r := true) rfl rfl (congrArg some ((u8ne c9 93).trans (decide_eq_true hc9)))) ?_
          refine pi_ro rfl (fun w hS => ro_pick rfl rfl rfl) ?_
          refine pi_nil (x_then (hK41 _ _ ?_))
          clear hK41 K41
          refine wc_condT rfl ?_
          refine c_seq (fun K42 hK42 => ?_)
          refine c_reg ?_ -- region 10 class.go:144
          refine wl (ro_move rfl) ?_
          refine wl (ro_nilCheck rfl) ?_
          refine wl (ro_fieldAddr (k := 1) rfl fo_96_1) ?_
          refine wl (ro_loadB rfl sc_3 (hB) (cel_get' (by omega) hi4)) ?_
          refine wl (ro_assign rfl) ?_
          refine wl_nil (x_then (hK42 _ _ ?_))
          clear hK42 K42
          refine forget [(0, _), (2, _), (3, _), (4, _), (5, _), (6, _), (7, _), (8, _), (62, _), (63, _), (64, _), (65, _), (66, _), (67, _), (68, _), (69, _), (70, _), (71, _), (96, _), (97, _), (98, _), (99, _), (100, _), (101, _), (102, _), (103, _), (104, _), (105, _), (108, _), (109, _), (110, _), (111, _), (112, _), (113, _), (114, _), (115, _), (116, _), (117, _), (118, _)] ⟨rfl, rfl, rfl, rfl, rfl, rfl, rfl, rfl, rfl, rfl, rfl, rfl, rfl, rfl, rfl, rfl, rfl, rfl, rfl, rfl, rfl, rfl, rfl, rfl, rfl, rfl, rfl, rfl, rfl, rfl, rfl, rfl, rfl, rfl, rfl, rfl, rfl, rfl, rfl, trivial⟩ (fun e => ?_)
          refine c_seq (fun K43 hK43 => ?_)
          refine c_reg ?_ -- region 11 class.go:145
          refine wl (ro_move rfl) ?_
          refine wl (ro_move rfl) ?_
          refine wl (ro_arith rfl rfl rfl (Go.IntWalk.i64_in _ (by omega))) ?_
          refine wl (ro_nilCheck rfl) ?_
          refine wl (ro_fieldAddr (k := 1) rfl fo_96_1) ?_
          refine wl_put rfl rfl rfl sz_3 hB ((cel_lt (by omega))) ((cel_put 1 (by omega))) (fun w25 hB F25 => ?_)
          replace hF := hF.thenDrew.thenO F25 (by first | exact .inr (by omega) | exact .inl rfl | exact .inl (by assumption))
          replace hZ := F25.blkO hZ (by omega)
          replace hA := F25.blkO hA (by omega)
          have V5 : PV (pt f4 1 (i64c (j4 + 1))) p { σ with i := j4 + 1 } T := V4.setI (i := j4 + 1) (by omega)
          refine wl_nil (x_then (hK43 _ _ ?_))
          clear hK43 K43
          refine forget [(0, _), (2, _), (3, _), (4, _), (5, _), (6, _), (7, _), (8, _), (62, _), (63, _), (64, _), (65, _), (66, _), (67, _), (68, _), (69, _), (70, _), (71, _), (96, _), (97, _), (98, _), (99, _), (100, _), (101, _), (102, _), (103, _), (104, _), (105, _), (108, _), (109, _), (110, _), (111, _), (112, _), (113, _), (114, _), (115, _), (116, _), (117, _), (118, _)] ⟨rfl, rfl, rfl, rfl, rfl, rfl, rfl, rfl, rfl, rfl, rfl, rfl, rfl, rfl, rfl, rfl, rfl, rfl, rfl, rfl, rfl, rfl, rfl, rfl, rfl, rfl, rfl, rfl, rfl, rfl, rfl, rfl, rfl, rfl, rfl, rfl, rfl, rfl, rfl, trivial⟩ (fun e => ?_)
          refine c_seq (fun K44 hK44 => ?_)
          refine c_reg ?_ -- region 12 class.go:146
          refine wl (ro_move rfl) ?_
          refine wl_call rfl en_139 (item139 (σ := { σ with i := j4 + 1 }) hB V5 h2) ?_
          rintro r w6 ⟨⟨Z6, b6, o6, f6, ec6, rfl, hB, hec6, hP6⟩, F6⟩
          replace hF := hF.thenDrew.trans F6
          replace hZ := F6.blkO hZ (by omega)
          replace hA := F6.blkO hA (by omega)
          refine wl (ro_move rfl) ?_
          refine wl (ro_extract rfl rfl) ?_
          refine wl (ro_extract rfl rfl) ?_
          refine wl (ro_extract rfl rfl) ?_
          refine wl_new (ze_87) (fun cb w26 hbcb hC F26 => ?_)
          have hbscb := Nat.le_trans hF.size hbcb
          have hnexbcb : xb < cb := Nat.lt_of_lt_of_le hB.lt hbcb
          have hnesbcb : sb < cb := Nat.lt_of_lt_of_le hZ.lt hbcb
          have hneabcb : ab < cb := Nat.lt_of_lt_of_le hA.lt hbcb
          replace hF := hF.thenDrew.thenN F26
          replace hB := F26.blkN hB
          replace hZ := F26.blkN hZ
          replace hA := F26.blkN hA
          refine wl_puta rfl rfl (by simp [Value.oneCell', i64c, u64c, u8c, ptr]) sz_87 (rfl) hC ((by simp)) (rfl) (fun w27 hC F27 => ?_)
          replace hF := hF.thenDrew.thenO F27 (by first | exact .inr (by omega) | exact .inl rfl | exact .inl (by assumption))
          replace hB := F27.blkO hB (by omega)
          replace hZ := F27.blkO hZ (by omega)
          replace hA := F27.blkO hA (by omega)
          refine wl (ro_assign rfl) ?_
          refine wl (ro_assign rfl) ?_
          refine wl_nil (x_then (hK44 _ _ ?_))
          clear hK44 K44
          refine c_seq (fun K45 hK45 => ?_)
          refine c_seq (fun K46 hK46 => ?_)
          refine c_reg ?_ -- region 13 class.go:147
          refine wl (ro_move rfl) ?_
          refine wl (ro_nilCheck rfl) ?_
          refine wl (ro_fieldAddr (k := 323) rfl fo_96_8) ?_
          refine wl (ro_loadB rfl sc_53 (hB) (cel_get' (by omega) hec6)) ?_
          refine wl (ro_cmp (r := decide (ec6 ≠ 0)) rfl rfl (congrArg some (bnec ec6 0))) ?_
          refine wl_nil (x_then (hK46 _ _ ?_))
          clear hK46 K46
          refine wc_cond rfl (fun hc139 => ?_) (fun hc139 => ?_)
          · try simp only [decide_eq_true_eq, decide_eq_false_iff_not, Bool.not_eq_true', Bool.not_eq_false', Bool.not_eq_eq_eq_not, Bool.not_true, Bool.not_false, beq_iff_eq, bne_iff_ne, ne_eq, beq_eq_false_iff_ne, bne_eq_false_iff_eq, gt_iff_lt, ge_iff_le, Int.not_lt, Int.not_le] at hc139
            have hec6' : ec6 ≠ 0 := by simpa using hc139
            obtain ⟨e6, hX6, he6, E6⟩ : ∃ e, item p (j4 + 1) c9 = .error e ∧ e.1 = ec6 ∧ ERR f6 e := by rcases hP6 with h | h; exact absurd h.1 hec6'; exact h.2
            rw [hX6] at hcl
            simp only at hcl
            have hfin : RP xb p (classX p σ) _ := RP.er hB E6 (hXe _ hcl.symm)
            refine c_ret (x_thenR (x_thenR (x_blkR (x_thenR (x_blkR (x_thenR ?_))))))
            refine bp_ret Tryz.results125 rfl ?_
            exact ⟨rfl, hfin, hF⟩
          · try simp only [decide_eq_true_eq, decide_eq_false_iff_not, Bool.not_eq_true', Bool.not_eq_false', Bool.not_eq_eq_eq_not, Bool.not_true, Bool.not_false, beq_iff_eq, bne_iff_ne, ne_eq, beq_eq_false_iff_ne, bne_eq_false_iff_eq, gt_iff_lt, ge_iff_le, Int.not_lt, Int.not_le] at hc139
            have hec6' : ec6 = 0 := by simpa using hc139
            obtain ⟨j6, hX6, V6⟩ : ∃ j, item p (j4 + 1) c9 = .ok (Z6, o6, b6.toNat, j) ∧ PV f6 p { σ with i := j } T := by rcases hP6 with h | h; exact h.2; exact absurd hec6' h.1
            clear hP6
            rw [hX6] at hcl
            simp only at hcl
            have hij6 := (item_ok hlt9 hX6).2.2
            have hq14 : o4 = false ∨ (o4 = true ∧ o6 = false) ∨ (o4 = true ∧ o6 = true ∧ b6.toNat < b4.toNat) ∨ (o4 = true ∧ o6 = true ∧ b4.toNat ≤ b6.toNat) := by
              cases o4 with
              | false => exact .inl rfl
              | true =>
                cases o6 with
                | false => exact .inr (.inl ⟨rfl, rfl⟩)
                | true =>
                  by_cases h : b6.toNat < b4.toNat
                  · exact .inr (.inr (.inl ⟨rfl, rfl, h⟩))
                  · exact .inr (.inr (.inr ⟨rfl, rfl, by omega⟩))
            refine c_skip (x_then (hK45 _ _ ?_))
            clear hK45 K45
            refine c_seq (fun K47 hK47 => ?_)
            refine c_seq (fun K48 hK48 => ?_)
            rcases hq14 with rfl | ⟨rfl, rfl⟩ | ⟨rfl, rfl, hbb⟩ | ⟨rfl, rfl, hbb⟩
            · skip
              rw [if_neg (by simp)] at hcl
              refine c_reg ?_ -- region 14 class.go:150
              refine wl (ro_move rfl) ?_
              refine wl (ro_not rfl) ?_
              refine wl (ro_move rfl) ?_
              refine wlg_no rfl ?_
              refine wlg_no rfl ?_
              refine wl (ro_pick rfl rfl rfl) ?_
              refine wl (ro_move rfl) ?_
              refine wlg_no rfl ?_
              refine wlg_no rfl ?_
              refine wlg_no rfl ?_
              refine wl (ro_pick rfl rfl rfl) ?_
              refine wl_nil (x_then (hK48 _ _ ?_))
              clear hK48 K48
              refine wc_condT rfl ?_
              refine c_seq (fun K49 hK49 => ?_)
              refine c_reg ?_ -- region 15 class.go:151
              refine wl (ro_move rfl) ?_
              refine wl (ro_move rfl) ?_
              refine wl_call rfl en_97 (fail97 hB) ?_
              rintro _ w9 ⟨rfl, hB, F9⟩
              replace hF := hF.thenDrew.trans F9
              have hfin : RP xb p (classX p σ) _ := RP.er (e := (2, j4)) hB (err97 V6) (hXe _ hcl.symm)
              refine wl_nil (x_then (hK49 _ _ ?_))
              clear hK49 K49
              refine c_ret (x_thenR (x_thenR (x_blkR (x_thenR (x_blkR (x_thenR ?_))))))
              refine bp_ret Tryz.results125 rfl ?_
              exact ⟨rfl, hfin, hF⟩
            · skip
              rw [if_neg (by simp)] at hcl
              refine c_reg ?_ -- region 14 class.go:150
              refine wl (ro_move rfl) ?_
              refine wl (ro_not rfl) ?_
              refine wl (ro_move rfl) ?_
              refine wlg_yes rfl (ro_move rfl) ?_
              refine wlg_yes rfl (ro_not rfl) ?_
              refine wl (ro_pick rfl rfl rfl) ?_
              refine wl (ro_move rfl) ?_
              refine wlg_no rfl ?_
              refine wlg_no rfl ?_
              refine wlg_no rfl ?_
              refine wl (ro_pick rfl rfl rfl) ?_
              refine wl_nil (x_then (hK48 _ _ ?_))
              clear hK48 K48
              refine wc_condT rfl ?_
              refine c_seq (fun K50 hK50 => ?_)
              refine c_reg ?_ -- region 15 class.go:151
              refine wl (ro_move rfl) ?_
              refine wl (ro_move rfl) ?_
              refine wl_call rfl en_97 (fail97 hB) ?_
              rintro _ w9 ⟨rfl, hB, F9⟩
              replace hF := hF.thenDrew.trans F9
              have hfin : RP xb p (classX p σ) _ := RP.er (e := (2, j4)) hB (err97 V6) (hXe _ hcl.symm)
              refine wl_nil (x_then (hK50 _ _ ?_))
              clear hK50 K50
              refine c_ret (x_thenR (x_thenR (x_blkR (x_thenR (x_blkR (x_thenR ?_))))))
              refine bp_ret Tryz.results125 rfl ?_
              exact ⟨rfl, hfin, hF⟩
            · skip
              rw [if_neg (by simp; omega)] at hcl
              refine c_reg ?_ -- region 14 class.go:150
              refine wl (ro_move rfl) ?_
              refine wl (ro_not rfl) ?_
              refine wl (ro_move rfl) ?_
              refine wlg_yes rfl (ro_move rfl) ?_
              refine wlg_yes rfl (ro_not rfl) ?_
              refine wl (ro_pick rfl rfl rfl) ?_
              refine wl (ro_move rfl) ?_
              refine wlg_yes rfl (ro_move rfl) ?_
              refine wlg_yes rfl (ro_move rfl) ?_
              refine wlg_yes rfl (ro_cmp (r := true) rfl rfl (congrArg some (decide_eq_true (by omega)))) ?_
              refine wl (ro_pick rfl rfl rfl) ?_
              refine wl_nil (x_then (hK48 _ _ ?_))
              clear hK48 K48
              refine wc_condT rfl ?_
              refine c_seq (fun K51 hK51 => ?_)
              refine c_reg ?_ -- region 15 class.go:151
              refine wl (ro_move rfl) ?_
              refine wl (ro_move rfl) ?_
              refine wl_call rfl en_97 (fail97 hB) ?_
              rintro _ w9 ⟨rfl, hB, F9⟩
              replace hF := hF.thenDrew.trans F9
              have hfin : RP xb p (classX p σ) _ := RP.er (e := (2, j4)) hB (err97 V6) (hXe _ hcl.symm)
              refine wl_nil (x_then (hK51 _ _ ?_))
              clear hK51 K51
              refine c_ret (x_thenR (x_thenR (x_blkR (x_thenR (x_blkR (x_thenR ?_))))))
              refine bp_ret Tryz.results125 rfl ?_
              exact ⟨rfl, hfin, hF⟩
            · skip
              rw [if_pos ⟨rfl, rfl, hbb⟩] at hcl
              refine c_reg ?_ -- region 14 class.go:150
              refine wl (ro_move rfl) ?_
              refine wl (ro_not rfl) ?_
              refine wl (ro_move rfl) ?_
              refine wlg_yes rfl (ro_move rfl) ?_
              refine wlg_yes rfl (ro_not rfl) ?_
              refine wl (ro_pick rfl rfl rfl) ?_
              refine wl (ro_move rfl) ?_
              refine wlg_yes rfl (ro_move rfl) ?_
              refine wlg_yes rfl (ro_move rfl) ?_
              refine wlg_yes rfl (ro_cmp (r := false) rfl rfl (congrArg some (decide_eq_false (by omega)))) ?_
              refine wl (ro_pick rfl rfl rfl) ?_
              refine wl_nil (x_then (hK48 _ _ ?_))
              clear hK48 K48
              refine wc_condF rfl ?_
              refine c_skip (x_then (hK47 _ _ ?_))
              clear hK47 K47
              refine c_reg ?_ -- region 16 class.go:154
              refine wl (ro_move rfl) ?_
              refine wl (ro_move rfl) ?_
              refine wl_call rfl en_128 (between128 (lo := b4) (hi := b6)) ?_
              rintro _ w28 ⟨rfl, F28⟩
              replace hF := hF.thenDrew.thenN F28
              replace hB := F28.blkN hB
              replace hZ := F28.blkN hZ
              replace hA := F28.blkN hA
              replace hC := F28.blkN hC
              refine wl_puta rfl rfl (by simp [Value.oneCell', i64c, u64c, u8c, ptr]) sz_87 (rfl) hA ((by simp)) (rfl) (fun w29 hA F29 => ?_)
              replace hF := hF.thenDrew.thenO F29 (by first | exact .inr (by omega) | exact .inl rfl | exact .inl (by assumption))
              replace hB := F29.blkO hB (by omega)
              replace hZ := F29.blkO hZ (by omega)
              replace hC := F29.blkO hC (by omega)
              refine wl_nil (x_then (hK40 _ _ ?_))
              clear hK40 K40
              refine c_reg ?_ -- region 17 class.go:156
              refine wl (ro_loadAggB rfl ag_87 (hZ) rfl rfl) ?_
              refine wl (ro_loadAggB rfl ag_87 (hA) rfl rfl) ?_
              refine wl_call rfl en_140 (Join140) ?_
              rintro _ w30 ⟨rfl, F30⟩
              replace hF := hF.thenDrew.thenN F30
              replace hB := F30.blkN hB
              replace hZ := F30.blkN hZ
              replace hA := F30.blkN hA
              replace hC := F30.blkN hC
              refine wl_puta rfl rfl (by simp [Value.oneCell', i64c, u64c, u8c, ptr]) sz_87 (rfl) hZ ((by simp)) (rfl) (fun w31 hZ F31 => ?_)
              replace hF := hF.thenDrew.thenO F31 (by first | exact .inr (by omega) | exact .inl rfl | exact .inl (by assumption))
              replace hB := F31.blkO hB (by omega)
              replace hA := F31.blkO hA (by omega)
              replace hC := F31.blkO hC (by omega)
              refine wl_nil (x_blk (x_then ?_))
              first | exact ⟨p.length - j6, by omega, j6, _, f6, ff, rfl, hcl, hB, V6, hZ, hF, kp _ ⟨rfl, rfl, rfl, rfl, trivial⟩⟩ | exact ⟨p.length - j4, by omega, j4, _, f4, ff, rfl, hcl, hB, V4, hZ, hF, kp _ ⟨rfl, rfl, rfl, rfl, trivial⟩⟩
        · skip
          have hlt9 := get_lt h2
          rw [if_neg (by rw [h2]; simp)] at hcl
          refine c_pi [(0, false), (1, false), (2, false), (3, false), (4, false), (5, false), (6, false), (7, false), (8, false), (9, false), (10, false), (11, false), (12, false), (13, false), (14, false), (15, false), (16, false), (17, false), (18, false), (19, false), (20, false), (21, false), (22, false), (23, false), (24, false), (25, false), (26, false), (27, false), (28, false), (29, false), (30, false), (31, false), (32, false), (33, false), (34, false), (35, false)] (SameH _) mixed (by kernel_rfl) rfl (by kernel_rfl) (po_then (po_then (po_blk (po_then (po_blk (po_then (po_bp))))))) (sameH_now _ _) ?_ -- region 9 class.go:143
          refine pi_ro rfl (fun w hS => ro_move rfl) ?_
          refine pi_ro rfl (fun w hS => ro_nilCheck rfl) ?_
          refine pi_ro rfl (fun w hS => ro_fieldAddr (k := 1) rfl fo_96_1) ?_
          refine pi_ro rfl (fun w hS => ro_loadB rfl sc_3 (Blk.of_heap hB hS) (cel_get' (by omega) hi4)) ?_
          refine pi_ro rfl (fun w hS => ro_arith rfl rfl rfl (Go.IntWalk.i64_in _ (by omega))) ?_
          refine pi_ro rfl (fun w hS => ro_move rfl) ?_
          refine pi_ro rfl (fun w hS => ro_nilCheck rfl) ?_
          refine pi_ro rfl (fun w hS => ro_fieldAddr (k := 0) rfl fo_96_0) ?_
          refine pi_ro rfl (fun w hS => ro_loadB rfl sc_9 (Blk.of_heap hB hS) (cel_get' (by omega) hp4)) ?_
          refine pi_ro rfl (fun w hS => ro_lenS rfl st_9) ?_
          refine pi_ro rfl (fun w hS => ro_cmp (r := true) rfl rfl (congrArg some (decide_eq_true (by omega)))) ?_
          refine pi_ro rfl (fun w hS => ro_move rfl) ?_
          refine pi_gyes rfl rfl (fun w hS => ro_move rfl) ?_
          refine pi_gyes rfl rfl (fun w hS => ro_nilCheck rfl) ?_
          refine pi_gyes rfl rfl (fun w hS => ro_fieldAddr (k := 0) rfl fo_96_0) ?_
          refine pi_gyes rfl rfl (fun w hS => ro_loadB rfl sc_9 (Blk.of_heap hB hS) (cel_get' (by omega) hp4)) ?_
          refine pi_gyes rfl rfl (fun w hS => ro_move rfl) ?_
          refine pi_gyes rfl rfl (fun w hS => ro_nilCheck rfl) ?_
          refine pi_gyes rfl rfl (fun w hS => ro_fieldAddr (k := 1) rfl fo_96_1) ?_
          refine pi_gyes rfl rfl (fun w hS => ro_loadB rfl sc_3 (Blk.of_heap hB hS) (cel_get' (by omega) hi4)) ?_
          refine pi_gyes rfl rfl (fun w hS => ro_indexS rfl rfl st_9 (rfl) (h1)) ?_
          refine pi_gyes rfl rfl (fun w hS => ro_cmp (r := true) rfl rfl rfl) ?_
          refine pi_ro rfl (fun w hS => ro_pick rfl rfl rfl) ?_
          refine pi_ro rfl (fun w hS => ro_move rfl) ?_
          refine pi_gyes rfl rfl (fun w hS => ro_move rfl) ?_
          refine pi_gyes rfl rfl (fun w hS => ro_nilCheck rfl) ?_
          refine pi_gyes rfl rfl (fun w hS => ro_fieldAddr (k := 0) rfl fo_96_0) ?_
          refine pi_gyes rfl rfl (fun w hS => ro_loadB rfl sc_9 (Blk.of_heap hB hS) (cel_get' (by omega) hp4)) ?_
          refine pi_gyes rfl rfl (fun w hS => ro_move rfl) ?_
          refine pi_gyes rfl rfl (fun w hS => ro_nilCheck rfl) ?_
          refine pi_gyes rfl rfl (fun w hS => ro_fieldAddr (k := 1) rfl fo_96_1) ?_
          refine pi_gyes rfl rfl (fun w hS => ro_loadB rfl sc_3 (Blk.of_heap hB hS) (cel_get' (by omega) hi4)) ?_
          refine pi_gyes rfl rfl (fun w hS => ro_arith rfl rfl rfl (Go.IntWalk.i64_in _ (by omega))) ?_
          refine pi_gyes rfl rfl (fun w hS => ro_indexS rfl rfl st_9 ((show _ = ((j4 + 1 : Nat) : Int) by omega)) (h2)) ?_
          refine pi_gyes rfl rfl (fun w hS => ro_cmp (r := false) rfl rfl rfl) ?_
          refine pi_ro rfl (fun w hS => ro_pick rfl rfl rfl) ?_
          refine pi_nil (x_then (hK41 _ _ ?_))
          clear hK41 K41
          refine wc_condF rfl ?_
          refine c_skip (x_then (hK40 _ _ ?_))
          clear hK40 K40
          refine c_reg ?_ -- region 17 class.go:156
          refine wl (ro_loadAggB rfl ag_87 (hZ) rfl rfl) ?_
          refine wl (ro_loadAggB rfl ag_87 (hA) rfl rfl) ?_
          refine wl_call rfl en_140 (Join140) ?_
          rintro _ w32 ⟨rfl, F32⟩
          replace hF := hF.thenDrew.thenN F32
          replace hB := F32.blkN hB
          replace hZ := F32.blkN hZ
          replace hA := F32.blkN hA
          refine wl_puta rfl rfl (by simp [Value.oneCell', i64c, u64c, u8c, ptr]) sz_87 (rfl) hZ ((by simp)) (rfl) (fun w33 hZ F33 => ?_)
          replace hF := hF.thenDrew.thenO F33 (by first | exact .inr (by omega) | exact .inl rfl | exact .inl (by assumption))
          replace hB := F33.blkO hB (by omega)
          replace hA := F33.blkO hA (by omega)
          refine wl_nil (x_blk (x_then ?_))
          first | exact ⟨p.length - j6, by omega, j6, _, f6, ff, rfl, hcl, hB, V6, hZ, hF, kp _ ⟨rfl, rfl, rfl, rfl, trivial⟩⟩ | exact ⟨p.length - j4, by omega, j4, _, f4, ff, rfl, hcl, hB, V4, hZ, hF, kp _ ⟨rfl, rfl, rfl, rfl, trivial⟩⟩
        · skip
          rw [if_neg (by rw [h1]; simp [hc9])] at hcl
          refine c_pi [(0, false), (1, false), (2, false), (3, false), (4, false), (5, false), (6, false), (7, false), (8, false), (9, false), (10, false), (11, false), (12, false), (13, false), (14, false), (15, false), (16, false), (17, false), (18, false), (19, false), (20, false), (21, false), (22, false), (23, false), (24, false), (25, false), (26, false), (27, false), (28, false), (29, false), (30, false), (31, false), (32, false), (33, false), (34, false), (35, false)] (SameH _) mixed (by kernel_rfl) rfl (by kernel_rfl) (po_then (po_then (po_blk (po_then (po_blk (po_then (po_bp))))))) (sameH_now _ _) ?_ -- region 9 class.go:143
          refine pi_ro rfl (fun w hS => ro_move rfl) ?_
          refine pi_ro rfl (fun w hS => ro_nilCheck rfl) ?_
          refine pi_ro rfl (fun w hS => ro_fieldAddr (k := 1) rfl fo_96_1) ?_
          refine pi_ro rfl (fun w hS => ro_loadB rfl sc_3 (Blk.of_heap hB hS) (cel_get' (by omega) hi4)) ?_
          refine pi_ro rfl (fun w hS => ro_arith rfl rfl rfl (Go.IntWalk.i64_in _ (by omega))) ?_
          refine pi_ro rfl (fun w hS => ro_move rfl) ?_
          refine pi_ro rfl (fun w hS => ro_nilCheck rfl) ?_
          refine pi_ro rfl (fun w hS => ro_fieldAddr (k := 0) rfl fo_96_0) ?_
          refine pi_ro rfl (fun w hS => ro_loadB rfl sc_9 (Blk.of_heap hB hS) (cel_get' (by omega) hp4)) ?_
          refine pi_ro rfl (fun w hS => ro_lenS rfl st_9) ?_
          refine pi_ro rfl (fun w hS => ro_cmp (r := true) rfl rfl (congrArg some (decide_eq_true (by omega)))) ?_
          refine pi_ro rfl (fun w hS => ro_move rfl) ?_
          refine pi_gyes rfl rfl (fun w hS => ro_move rfl) ?_
          refine pi_gyes rfl rfl (fun w hS => ro_nilCheck rfl) ?_
          refine pi_gyes rfl rfl (fun w hS => ro_fieldAddr (k := 0) rfl fo_96_0) ?_
          refine pi_gyes rfl rfl (fun w hS => ro_loadB rfl sc_9 (Blk.of_heap hB hS) (cel_get' (by omega) hp4)) ?_
          refine pi_gyes rfl rfl (fun w hS => ro_move rfl) ?_
          refine pi_gyes rfl rfl (fun w hS => ro_nilCheck rfl) ?_
          refine pi_gyes rfl rfl (fun w hS => ro_fieldAddr (k := 1) rfl fo_96_1) ?_
          refine pi_gyes rfl rfl (fun w hS => ro_loadB rfl sc_3 (Blk.of_heap hB hS) (cel_get' (by omega) hi4)) ?_
          refine pi_gyes rfl rfl (fun w hS => ro_indexS rfl rfl st_9 (rfl) (h1)) ?_
          refine pi_gyes rfl rfl (fun w hS => ro_cmp (r := false) rfl rfl (congrArg some ((u8eq c9 45).trans (decide_eq_false hc9)))) ?_
          refine pi_ro rfl (fun w hS => ro_pick rfl rfl rfl) ?_
          refine pi_ro rfl (fun w hS => ro_move rfl) ?_
          refine pi_gno rfl rfl ?_
          refine pi_gno rfl rfl ?_
          refine pi_gno rfl rfl ?_
          refine pi_gno rfl rfl ?_
          refine pi_gno rfl rfl ?_
          refine pi_gno rfl rfl ?_
          refine pi_gno rfl rfl ?_
          refine pi_gno rfl rfl ?_
          refine pi_gno rfl rfl ?_
          refine pi_gno rfl rfl ?_
          refine pi_gno rfl rfl ?_
          refine pi_ro rfl (fun w hS => ro_pick rfl rfl rfl) ?_
          refine pi_nil (x_then (hK41 _ _ ?_))
          clear hK41 K41
          refine wc_condF rfl ?_
          refine c_skip (x_then (hK40 _ _ ?_))
          clear hK40 K40
          refine c_reg ?_ -- region 17 class.go:156
          refine wl (ro_loadAggB rfl ag_87 (hZ) rfl rfl) ?_
          refine wl (ro_loadAggB rfl ag_87 (hA) rfl rfl) ?_
          refine wl_call rfl en_140 (Join140) ?_
          rintro _ w34 ⟨rfl, F34⟩
          replace hF := hF.thenDrew.thenN F34
          replace hB := F34.blkN hB
          replace hZ := F34.blkN hZ
          replace hA := F34.blkN hA
          refine wl_puta rfl rfl (by simp [Value.oneCell', i64c, u64c, u8c, ptr]) sz_87 (rfl) hZ ((by simp)) (rfl) (fun w35 hZ F35 => ?_)
          replace hF := hF.thenDrew.thenO F35 (by first | exact .inr (by omega) | exact .inl rfl | exact .inl (by assumption))
          replace hB := F35.blkO hB (by omega)
          replace hA := F35.blkO hA (by omega)
          refine wl_nil (x_blk (x_then ?_))
          first | exact ⟨p.length - j6, by omega, j6, _, f6, ff, rfl, hcl, hB, V6, hZ, hF, kp _ ⟨rfl, rfl, rfl, rfl, trivial⟩⟩ | exact ⟨p.length - j4, by omega, j4, _, f4, ff, rfl, hcl, hB, V4, hZ, hF, kp _ ⟨rfl, rfl, rfl, rfl, trivial⟩⟩
        · skip
          have hn9 : p[j4 + 1]? = none := List.getElem?_eq_none h2
          rw [if_neg (by rw [hn9]; simp)] at hcl
          refine c_pi [(0, false), (1, false), (2, false), (3, false), (4, false), (5, false), (6, false), (7, false), (8, false), (9, false), (10, false), (11, false), (12, false), (13, false), (14, false), (15, false), (16, false), (17, false), (18, false), (19, false), (20, false), (21, false), (22, false), (23, false), (24, false), (25, false), (26, false), (27, false), (28, false), (29, false), (30, false), (31, false), (32, false), (33, false), (34, false), (35, false)] (SameH _) mixed (by kernel_rfl) rfl (by kernel_rfl) (po_then (po_then (po_blk (po_then (po_blk (po_then (po_bp))))))) (sameH_now _ _) ?_ -- region 9 class.go:143
          refine pi_ro rfl (fun w hS => ro_move rfl) ?_
          refine pi_ro rfl (fun w hS => ro_nilCheck rfl) ?_
          refine pi_ro rfl (fun w hS => ro_fieldAddr (k := 1) rfl fo_96_1) ?_
          refine pi_ro rfl (fun w hS => ro_loadB rfl sc_3 (Blk.of_heap hB hS) (cel_get' (by omega) hi4)) ?_
          refine pi_ro rfl (fun w hS => ro_arith rfl rfl rfl (Go.IntWalk.i64_in _ (by omega))) ?_
          refine pi_ro rfl (fun w hS => ro_move rfl) ?_
          refine pi_ro rfl (fun w hS => ro_nilCheck rfl) ?_
          refine pi_ro rfl (fun w hS => ro_fieldAddr (k := 0) rfl fo_96_0) ?_
          refine pi_ro rfl (fun w hS => ro_loadB rfl sc_9 (Blk.of_heap hB hS) (cel_get' (by omega) hp4)) ?_
          refine pi_ro rfl (fun w hS => ro_lenS rfl st_9) ?_
          refine pi_ro rfl (fun w hS => ro_cmp (r := false) rfl rfl (congrArg some (decide_eq_false (by omega)))) ?_
          refine pi_ro rfl (fun w hS => ro_move rfl) ?_
          refine pi_gno rfl rfl ?_
          refine pi_gno rfl rfl ?_
          refine pi_gno rfl rfl ?_
          refine pi_gno rfl rfl ?_
          refine pi_gno rfl rfl ?_
          refine pi_gno rfl rfl ?_
          refine pi_gno rfl rfl ?_
          refine pi_gno rfl rfl ?_
          refine pi_gno rfl rfl ?_
          refine pi_gno rfl rfl ?_
          refine pi_ro rfl (fun w hS => ro_pick rfl rfl rfl) ?_
          refine pi_ro rfl (fun w hS => ro_move rfl) ?_
          refine pi_gno rfl rfl ?_
          refine pi_gno rfl rfl ?_
          refine pi_gno rfl rfl ?_
          refine pi_gno rfl rfl ?_
          refine pi_gno rfl rfl ?_
          refine pi_gno rfl rfl ?_
          refine pi_gno rfl rfl ?_
          refine pi_gno rfl rfl ?_
          refine pi_gno rfl rfl ?_
          refine pi_gno rfl rfl ?_
          refine pi_gno rfl rfl ?_
          refine pi_ro rfl (fun w hS => ro_pick rfl rfl rfl) ?_
          refine pi_nil (x_then (hK41 _ _ ?_))
          clear hK41 K41
          refine wc_condF rfl ?_
          refine c_skip (x_then (hK40 _ _ ?_))
          clear hK40 K40
          refine c_reg ?_ -- region 17 class.go:156
          refine wl (ro_loadAggB rfl ag_87 (hZ) rfl rfl) ?_
          refine wl (ro_loadAggB rfl ag_87 (hA) rfl rfl) ?_
          refine wl_call rfl en_140 (Join140) ?_
          rintro _ w36 ⟨rfl, F36⟩
          replace hF := hF.thenDrew.thenN F36
          replace hB := F36.blkN hB
          replace hZ := F36.blkN hZ
          replace hA := F36.blkN hA
          refine wl_puta rfl rfl (by simp [Value.oneCell', i64c, u64c, u8c, ptr]) sz_87 (rfl) hZ ((by simp)) (rfl) (fun w37 hZ F37 => ?_)
          replace hF := hF.thenDrew.thenO F37 (by first | exact .inr (by omega) | exact .inl rfl | exact .inl (by assumption))
          replace hB := F37.blkO hB (by omega)
          replace hA := F37.blkO hA (by omega)
          refine wl_nil (x_blk (x_then ?_))
          first | exact ⟨p.length - j6, by omega, j6, _, f6, ff, rfl, hcl, hB, V6, hZ, hF, kp _ ⟨rfl, rfl, rfl, rfl, trivial⟩⟩ | exact ⟨p.length - j4, by omega, j4, _, f4, ff, rfl, hcl, hB, V4, hZ, hF, kp _ ⟨rfl, rfl, rfl, rfl, trivial⟩⟩
    · skip
      have hge6 : p.length ≤ i := List.getElem?_eq_none_iff.1 hcc6
      rw [hcc6] at hcl
      simp only at hcl
      refine c_pi [(0, false), (1, false), (2, false), (3, false), (4, false), (5, false), (6, false), (7, false), (8, false), (9, false), (10, false), (11, false), (12, false), (13, false), (14, false), (15, false), (16, false), (17, false), (18, false), (19, false), (20, false), (21, false)] (SameH _) mixed (by kernel_rfl) rfl (by kernel_rfl) (po_then (po_then (po_then (po_blk (po_then (po_bp)))))) (sameH_now _ _) ?_ -- region 6 class.go:138
      refine pi_ro rfl (fun w hS => ro_move rfl) ?_
      refine pi_ro rfl (fun w hS => ro_nilCheck rfl) ?_
      refine pi_ro rfl (fun w hS => ro_fieldAddr (k := 1) rfl fo_96_1) ?_
      refine pi_ro rfl (fun w hS => ro_loadB rfl sc_3 (Blk.of_heap hB hS) (cel_get' (by omega) hi3)) ?_
      refine pi_ro rfl (fun w hS => ro_move rfl) ?_
      refine pi_ro rfl (fun w hS => ro_nilCheck rfl) ?_
      refine pi_ro rfl (fun w hS => ro_fieldAddr (k := 0) rfl fo_96_0) ?_
      refine pi_ro rfl (fun w hS => ro_loadB rfl sc_9 (Blk.of_heap hB hS) (cel_get' (by omega) hp3)) ?_
      refine pi_ro rfl (fun w hS => ro_lenS rfl st_9) ?_
      refine pi_ro rfl (fun w hS => ro_cmp (r := false) rfl rfl (congrArg some (decide_eq_false (by omega)))) ?_
      refine pi_ro rfl (fun w hS => ro_move rfl) ?_
      refine pi_gno rfl rfl ?_
      refine pi_gno rfl rfl ?_
      refine pi_gno rfl rfl ?_
      refine pi_gno rfl rfl ?_
      refine pi_gno rfl rfl ?_
      refine pi_gno rfl rfl ?_
      refine pi_gno rfl rfl ?_
      refine pi_gno rfl rfl ?_
      refine pi_gno rfl rfl ?_
      refine pi_gno rfl rfl ?_
      refine pi_ro rfl (fun w hS => ro_pick rfl rfl rfl) ?_
      refine pi_nil (x_then (hK36 _ _ ?_))
      clear hK36 K36
      refine wc_condF rfl ?_
      refine c_exit (x_thenX (x_thenX (x_blkX (x_then (hK34 _ _ ?_)))))
      clear hK35 K35 hK34 K34
      refine c_seq (fun K52 hK52 => ?_)
      refine c_seq (fun K53 hK53 => ?_)
      refine c_pi [(0, false), (1, false), (2, false), (3, false), (4, false), (5, false), (6, false), (7, false), (8, false), (9, false)] (SameH _) mixed (by kernel_rfl) rfl (by kernel_rfl) (po_then (po_then (po_bp))) (sameH_now _ _) ?_ -- region 18 class.go:158
      refine pi_ro rfl (fun w hS => ro_move rfl) ?_
      refine pi_ro rfl (fun w hS => ro_nilCheck rfl) ?_
      refine pi_ro rfl (fun w hS => ro_fieldAddr (k := 1) rfl fo_96_1) ?_
      refine pi_ro rfl (fun w hS => ro_loadB rfl sc_3 (Blk.of_heap hB hS) (cel_get' (by omega) hi3)) ?_
      refine pi_ro rfl (fun w hS => ro_move rfl) ?_
      refine pi_ro rfl (fun w hS => ro_nilCheck rfl) ?_
      refine pi_ro rfl (fun w hS => ro_fieldAddr (k := 0) rfl fo_96_0) ?_
      refine pi_ro rfl (fun w hS => ro_loadB rfl sc_9 (Blk.of_heap hB hS) (cel_get' (by omega) hp3)) ?_
      refine pi_ro rfl (fun w hS => ro_lenS rfl st_9) ?_
      refine pi_ro rfl (fun w hS => ro_cmp (r := true) rfl rfl (congrArg some (decide_eq_true (by omega)))) ?_
      refine pi_nil (x_then (hK53 _ _ ?_))
      clear hK53 K53
      refine wc_condT rfl ?_
      refine c_seq (fun K54 hK54 => ?_)
      refine c_reg ?_ -- region 19 class.go:159
      refine wl (ro_move rfl) ?_
      refine wl (ro_move rfl) ?_
      refine wl_call rfl en_97 (fail97 hB) ?_
      rintro _ w9 ⟨rfl, hB, F9⟩
      replace hF := hF.thenDrew.trans F9
      have hfin : RP xb p (classX p σ) _ := RP.er (e := (2, σ.i)) hB (err97 V3) (hXe _ hcl.symm)
      refine wl_nil (x_then (hK54 _ _ ?_))
      clear hK54 K54
      refine c_ret (x_thenR ?_)
      refine bp_ret Tryz.results125 rfl ?_
      exact ⟨rfl, hfin, hF⟩
    · skip
      have hlt6 := get_lt hcc6
      subst h93
      rw [hcc6] at hcl
      simp only [if_true] at hcl
      refine c_pi [(0, false), (1, false), (2, false), (3, false), (4, false), (5, false), (6, false), (7, false), (8, false), (9, false), (10, false), (11, false), (12, false), (13, false), (14, false), (15, false), (16, false), (17, false), (18, false), (19, false), (20, false), (21, false)] (SameH _) mixed (by kernel_rfl) rfl (by kernel_rfl) (po_then (po_then (po_then (po_blk (po_then (po_bp)))))) (sameH_now _ _) ?_ -- region 6 class.go:138
      refine pi_ro rfl (fun w hS => ro_move rfl) ?_
      refine pi_ro rfl (fun w hS => ro_nilCheck rfl) ?_
      refine pi_ro rfl (fun w hS => ro_fieldAddr (k := 1) rfl fo_96_1) ?_
      refine pi_ro rfl (fun w hS => ro_loadB rfl sc_3 (Blk.of_heap hB hS) (cel_get' (by omega) hi3)) ?_
      refine pi_ro rfl (fun w hS => ro_move rfl) ?_
      refine pi_ro rfl (fun w hS => ro_nilCheck rfl) ?_
      refine pi_ro rfl (fun w hS => ro_fieldAddr (k := 0) rfl fo_96_0) ?_
      refine pi_ro rfl (fun w hS => ro_loadB rfl sc_9 (Blk.of_heap hB hS) (cel_get' (by omega) hp3)) ?_
      refine pi_ro rfl (fun w hS => ro_lenS rfl st_9) ?_
      refine pi_ro rfl (fun w hS => ro_cmp (r := true) rfl rfl (congrArg some (decide_eq_true (by omega)))) ?_
      refine pi_ro rfl (fun w hS => ro_move rfl) ?_
      refine pi_gyes rfl rfl (fun w hS => ro_move rfl) ?_
      refine pi_gyes rfl rfl (fun w hS => ro_nilCheck rfl) ?_
      refine pi_gyes rfl rfl (fun w hS => ro_fieldAddr (k := 0) rfl fo_96_0) ?_
      refine pi_gyes rfl rfl (fun w hS => ro_loadB rfl sc_9 (Blk.of_heap hB hS) (cel_get' (by omega) hp3)) ?_
      refine pi_gyes rfl rfl (fun w hS => ro_move rfl) ?_
      refine pi_gyes rfl rfl (fun w hS => ro_nilCheck rfl) ?_
      refine pi_gyes rfl rfl (fun w hS => ro_fieldAddr (k := 1) rfl fo_96_1) ?_
      refine pi_gyes rfl rfl (fun w hS => ro_loadB rfl sc_3 (Blk.of_heap hB hS) (cel_get' (by omega) hi3)) ?_
      refine pi_gyes rfl rfl (fun w hS => ro_indexS rfl rfl st_9 (rfl) (hcc6)) ?_
      refine pi_gyes rfl rfl (fun w hS => ro_cmp (r := false) rfl rfl rfl) ?_
      refine pi_ro rfl (fun w hS => ro_pick rfl rfl rfl) ?_
      refine pi_nil (x_then (hK36 _ _ ?_))
      clear hK36 K36
      refine wc_condF rfl ?_
      refine c_exit (x_thenX (x_thenX (x_blkX (x_then (hK34 _ _ ?_)))))
      clear hK35 K35 hK34 K34
      refine c_seq (fun K55 hK55 => ?_)
      refine c_seq (fun K56 hK56 => ?_)
      refine c_pi [(0, false), (1, false), (2, false), (3, false), (4, false), (5, false), (6, false), (7, false), (8, false), (9, false)] (SameH _) mixed (by kernel_rfl) rfl (by kernel_rfl) (po_then (po_then (po_bp))) (sameH_now _ _) ?_ -- region 18 class.go:158
      refine pi_ro rfl (fun w hS => ro_move rfl) ?_
      refine pi_ro rfl (fun w hS => ro_nilCheck rfl) ?_
      refine pi_ro rfl (fun w hS => ro_fieldAddr (k := 1) rfl fo_96_1) ?_
      refine pi_ro rfl (fun w hS => ro_loadB rfl sc_3 (Blk.of_heap hB hS) (cel_get' (by omega) hi3)) ?_
      refine pi_ro rfl (fun w hS => ro_move rfl) ?_
      refine pi_ro rfl (fun w hS => ro_nilCheck rfl) ?_
      refine pi_ro rfl (fun w hS => ro_fieldAddr (k := 0) rfl fo_96_0) ?_
      refine pi_ro rfl (fun w hS => ro_loadB rfl sc_9 (Blk.of_heap hB hS) (cel_get' (by omega) hp3)) ?_
      refine pi_ro rfl (fun w hS => ro_lenS rfl st_9) ?_
      refine pi_ro rfl (fun w hS => ro_cmp (r := false) rfl rfl (congrArg some (decide_eq_false (by omega)))) ?_
      refine pi_nil (x_then (hK56 _ _ ?_))
      clear hK56 K56
      refine wc_condF rfl ?_
      refine c_skip (x_then (hK55 _ _ ?_))
      clear hK55 K55
      refine forget [(0, _), (3, _), (4, _)] ⟨rfl, rfl, rfl, trivial⟩ (fun e => ?_)
      refine c_seq (fun K57 hK57 => ?_)
      refine c_reg ?_ -- region 20 class.go:162
      refine wl (ro_move rfl) ?_
      refine wl (ro_nilCheck rfl) ?_
      refine wl (ro_fieldAddr (k := 1) rfl fo_96_1) ?_
      refine wl (ro_loadB rfl sc_3 (hB) (cel_get' (by omega) hi3)) ?_
      refine wl (ro_arith rfl rfl rfl (Go.IntWalk.i64_in _ (by omega))) ?_
      refine wl (ro_nilCheck rfl) ?_
      refine wl (ro_fieldAddr (k := 1) rfl fo_96_1) ?_
      refine wl_put rfl rfl rfl sz_3 hB ((cel_lt (by omega))) ((cel_put 1 (by omega))) (fun w38 hB F38 => ?_)
      replace hF := hF.thenDrew.thenO F38 (by first | exact .inr (by omega) | exact .inl rfl | exact .inl (by assumption))
      replace hZ := F38.blkO hZ (by omega)
      have V7 : PV (pt f3 1 (i64c (i + 1))) p { σ with i := i + 1 } T := V3.setI (i := i + 1) (by omega)
      refine wl_nil (x_then (hK57 _ _ ?_))
      clear hK57 K57
      refine c_seq (fun K58 hK58 => ?_)
      refine c_seq (fun K59 hK59 => ?_)
      refine c_reg ?_ -- region 21 class.go:163
      refine wl (ro_move rfl) ?_
      refine wl_nil (x_then (hK59 _ _ ?_))
      clear hK59 K59
      refine wc_cond rfl (fun hc180 => ?_) (fun hc180 => ?_)
      · try simp only [decide_eq_true_eq, decide_eq_false_iff_not, Bool.not_eq_true', Bool.not_eq_false', Bool.not_eq_eq_eq_not, Bool.not_true, Bool.not_false, beq_iff_eq, bne_iff_ne, ne_eq, beq_eq_false_iff_ne, bne_eq_false_iff_eq, gt_iff_lt, ge_iff_le, Int.not_lt, Int.not_le] at hc180
        have hNN : clsN p σ.i = true := hc180
        refine c_reg ?_ -- region 22 class.go:164
        refine wl (ro_loadAggB rfl ag_87 (hZ) rfl rfl) ?_
        refine wl_call rfl en_129 (Not129) ?_
        rintro _ w39 ⟨rfl, F39⟩
        replace hF := hF.thenDrew.thenN F39
        replace hB := F39.blkN hB
        replace hZ := F39.blkN hZ
        refine wl_puta rfl rfl (by simp [Value.oneCell', i64c, u64c, u8c, ptr]) sz_87 (rfl) hZ ((by simp)) (rfl) (fun w40 hZ F40 => ?_)
        replace hF := hF.thenDrew.thenO F40 (by first | exact .inr (by omega) | exact .inl rfl | exact .inl (by assumption))
        replace hB := F40.blkO hB (by omega)
        refine wl_nil (x_then (hK58 _ _ ?_))
        clear hK58 K58
        refine c_reg ?_ -- region 23 class.go:166
        refine wl (ro_move rfl) ?_
        refine wl (ro_loadAggB rfl ag_87 (hZ) rfl rfl) ?_
        refine wl_call rfl en_127 (leaf127 (k := 1) hB V7 (r := RE.set (cpl Z)) (Z := cpl Z) rfl) ?_
        rintro _ w9 ⟨rfl, hR9, F9⟩
        replace hF := hF.thenDrew.trans F9
        have hfin : RP xb p (classX p σ) w9 := by rw [hXo _ _ hcl.symm, hNN]; exact hR9
        refine wl_nil ?_
        refine bp_end Tryz.results125 rfl ?_
        exact ⟨rfl, hfin, hF⟩
      · try simp only [decide_eq_true_eq, decide_eq_false_iff_not, Bool.not_eq_true', Bool.not_eq_false', Bool.not_eq_eq_eq_not, Bool.not_true, Bool.not_false, beq_iff_eq, bne_iff_ne, ne_eq, beq_eq_false_iff_ne, bne_eq_false_iff_eq, gt_iff_lt, ge_iff_le, Int.not_lt, Int.not_le] at hc180
        have hNN : clsN p σ.i = false := hc180
        refine c_skip (x_then (hK58 _ _ ?_))
        clear hK58 K58
        refine c_reg ?_ -- region 23 class.go:166
        refine wl (ro_move rfl) ?_
        refine wl (ro_loadAggB rfl ag_87 (hZ) rfl rfl) ?_
        refine wl_call rfl en_127 (leaf127 (k := 1) hB V7 (r := RE.set (Z)) (Z := Z) rfl) ?_
        rintro _ w9 ⟨rfl, hR9, F9⟩
        replace hF := hF.thenDrew.trans F9
        have hfin : RP xb p (classX p σ) w9 := by rw [hXo _ _ hcl.symm, hNN]; exact hR9
        refine wl_nil ?_
        refine bp_end Tryz.results125 rfl ?_
        exact ⟨rfl, hfin, hF⟩

end Go.Proofs.Qxb6500567aGreat
