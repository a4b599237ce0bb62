import Derived.Test.Qxb6500569aGreatVa
/- The real program's printers: texts, codes. -/
namespace Go.Proofs.Qxb6500569aGreat
set_option linter.unusedVariables false
set_option linter.unusedSimpArgs false

def XSpec (d base : Nat) : Prop := ∀ (w : World) (V : Value) (out : List UInt8) (v : Value) (i : TI), TAt d w.heap v i → (∀ b ∈ i.B, b < base) → base ≤ w.heap.size → Out base w V out → out.length + i.text.length ≤ 1000000 → Ret Tryz.prog 109 [V, v] w (APost base out i.text w)

/-- What is written of the arguments ahead of the j-th. -/
def partT (ks : List TI) (j : Nat) : List UInt8 := if j = 0 then [] else 40 :: joinT (ks.take j)

theorem partT_step {ks : List TI} {j : Nat} {i : TI} (h : ks[j]? = some i) : partT ks (j + 1) = partT ks j ++ (if j = 0 then [40] else [44]) ++ i.text := by
  unfold partT
  rw [if_neg (by omega), List.take_add_one, h]
  simp only [Option.toList_some]
  rw [joinT_snoc]
  by_cases hj : j = 0
  · subst hj; simp [preT]
  · rw [if_neg hj, if_neg hj]
    have hl := (List.getElem?_eq_some_iff.1 h).1
    have : ks.take j ≠ [] := by intro hx; have := congrArg List.length hx; rw [List.length_take] at this; simp only [List.length_nil] at this; omega
    simp [preT, this]

theorem partT_len (ks : List TI) : ∀ (j : Nat), j ≤ ks.length → (partT ks j).length + (ks.length - j) ≤ (partT ks ks.length).length := by
  intro j hj
  obtain ⟨n, hn⟩ : ∃ n, n = ks.length - j := ⟨_, rfl⟩
  induction n generalizing j with
  | zero =>
    have : j = ks.length := by omega
    subst this; omega
  | succ n ih =>
    obtain ⟨i, hi⟩ : ∃ i, ks[j]? = some i := ⟨_, List.getElem?_eq_getElem (by omega)⟩
    have h1 := ih (j + 1) (by omega) (by omega)
    have h2 := congrArg List.length (partT_step hi)
    simp only [List.length_append] at h2
    have h3 : (if j = 0 then ([40] : List UInt8) else [44]).length = 1 := by split <;> rfl
    omega

theorem textC_eq (c : UInt8) (ks : List TI) : textC c ks = c :: (partT ks ks.length ++ (if ks = [] then [] else [41])) := by
  unfold textC partT
  by_cases h : ks = []
  · subst h; simp
  · have : ks.length ≠ 0 := by intro hx; exact h (List.eq_nil_of_length_eq_zero hx)
    rw [if_neg h, if_neg this, if_neg h, List.take_length]
    simp

theorem text109c {d base : Nat} (IH : XSpec d base) {w : World} {V : Value} {out : List UInt8} {cb : Nat} {c : UInt8} {VA : Value} {ks : List (Value × TI)} {B : List Nat} (hC : CallB (TAt d w.heap) w.heap cb c VA ks B) (hB : ∀ b ∈ B, b < base) (hbw : base ≤ w.heap.size) (hO : Out base w V out) (hkl : ks.length ≤ 100)
    (hlen : out.length + (textC c (ks.map (·.2))).length ≤ 1000000) : Ret Tryz.prog 109 [V, .iface 155 (ptr cb)] w (APost base out (textC c (ks.map (·.2))) w) := by
  have hkB : ∀ k ∈ ks, ∀ b ∈ k.2.B, b < base := fun k hk b hb => hB b (by rw [hC.bs]; simp only [List.mem_cons, List.mem_append, List.mem_flatMap]; exact .inr (.inr ⟨k, hk, hb⟩))
  obtain ⟨aV, cV, rfl⟩ := hC.own.form
  obtain ⟨ao, co, rfl⟩ := hO.own.form
  have hBc := hC.blk
  rw [textC_eq] at hlen ⊢
  simp only [List.length_cons, List.length_append, List.length_map] at hlen ⊢
  refine ret_of Tryz.func109 rfl Tryz.ntmps109 rfl ?_
  refine c_seq (fun K1 hK1 => ?_)
  refine c_reg ?_ -- region 0 term.go:99
  refine wl (ro_assign rfl) ?_
  refine wl_nil (x_then (hK1 _ _ ?_))
  clear hK1 K1
  refine c_seq (fun K2 hK2 => ?_)
  refine c_seq (fun K3 hK3 => ?_)
  refine c_reg ?_ -- region 1 term.go:100
  refine wl (ro_move rfl) ?_
  refine wl_nil (x_then (hK3 _ _ ?_))
  clear hK3 K3
  refine c_block ?_
  refine forget [(0, _), (10, _)] ⟨rfl, rfl, trivial⟩ (fun e => ?_)
  refine c_seq (fun K4 hK4 => ?_)
  refine c_reg ?_ -- region 2 term.go:100
  refine wl (ro_taN rfl ni_214 rfl zr_214) ?_
  refine wl (ro_extract rfl rfl) ?_
  refine wl (ro_extract rfl rfl) ?_
  refine wl_nil (x_then (hK4 _ _ ?_))
  clear hK4 K4
  refine wc_condF rfl ?_
  refine c_seq (fun K5 hK5 => ?_)
  refine c_reg ?_ -- region 5 term.go:100
  refine wl (ro_taN rfl ni_220 rfl zr_220) ?_
  refine wl (ro_extract rfl rfl) ?_
  refine wl (ro_extract rfl rfl) ?_
  refine wl_nil (x_then (hK5 _ _ ?_))
  clear hK5 K5
  refine wc_condF rfl ?_
  refine c_seq (fun K6 hK6 => ?_)
  refine c_reg ?_ -- region 8 term.go:100
  refine wl (ro_taY rfl ni_155) ?_
  refine wl (ro_extract rfl rfl) ?_
  refine wl (ro_extract rfl rfl) ?_
  refine wl_nil (x_then (hK6 _ _ ?_))
  clear hK6 K6
  refine wc_condT rfl ?_
  refine c_seq (fun K7 hK7 => ?_)
  refine c_reg ?_ -- region 9 term.go:100
  refine wl (ro_assign rfl) ?_
  refine wl_nil (x_then (hK7 _ _ ?_))
  clear hK7 K7
  refine forget [(0, _), (7, _)] ⟨rfl, rfl, trivial⟩ (fun e => ?_)
  refine c_seq (fun K8 hK8 => ?_)
  refine c_reg ?_ -- region 10 term.go:106
  refine wl (ro_move rfl) ?_
  refine wl (ro_move rfl) ?_
  refine wl (ro_nilCheck rfl) ?_
  refine wl (ro_fieldAddr (k := 0) rfl fo_193_0) ?_
  refine wl (ro_loadB rfl sc_5 (hBc) rfl) ?_
  refine wle (eo_bs1 rfl rfl se_66 zx_5 rfl rfl rfl) ?_
  have hN := Blk.new w [u8c c] 5
  have FD : Fram none' w (World.alloc w (.cells [u8c c].toArray 5)) := Fram.alloc none' w _
  have hO1 := hO.none FD
  refine wl_app (news := [u8c c]) rfl rfl se_66 zx_5 by_5 rfl hO1.own hN rfl rfl (by simp [u8c, Value.oneCell']) (by omega) (by omega) ?_
  intro V2 w2 hown hgr hloc
  obtain ⟨hO2, F2⟩ := hO1.grown (w0 := w) (xs := [c]) hbw FD.size hgr hloc hown (by simp)
  have F02 : Fram (fun b => base ≤ b) w w2 := (FD.mono (fun _ _ h => h.elim)).trans F2
  have hC2 := hC.fram F02 (fun b hb hx => by have := hB b hb; omega) (fun k hk hb h => h.fram F02 hb)
  have hBc2 := hC2.blk
  refine wl (ro_assign rfl) ?_
  refine wl_nil (x_then (hK8 _ _ ?_))
  clear hK8 K8
  refine c_seq (fun K9 hK9 => ?_)
  refine c_seq (fun K10 hK10 => ?_)
  refine c_reg ?_ -- region 11 term.go:107
  refine wl (ro_move rfl) ?_
  refine wl (ro_nilCheck rfl) ?_
  refine wl (ro_fieldAddr (k := 1) rfl fo_193_1) ?_
  refine wl (ro_loadB rfl sc_190 (hBc2) rfl) ?_
  refine wl (ro_lenL rfl se_190) ?_
  refine wl (ro_move rfl) ?_
  refine wl_nil (x_then (hK10 _ _ ?_))
  clear hK10 K10
  refine c_block ?_
  -- loop@r12: live slots [0, 7, 38, 39, 40]
  refine c_loopG (fun m a' w' => ∃ j V', m = ks.length - j ∧ j ≤ ks.length ∧ Out base w' V' (out ++ (c :: partT (ks.map (·.2)) j)) ∧ Fram (fun b => base ≤ b) w w' ∧ ∃ e, a' = Fr 67 (upds e [(0, V'), (7, ptr cb), (38, .slice aV ks.length cV), (39, i64c ks.length), (40, i64c j)]) []) ks.length ⟨0, _, rfl, by omega, by simpa [partT] using hO2, F02, kp _ ⟨rfl, rfl, rfl, rfl, rfl, trivial⟩⟩ ?_
  clear hO2 F02 hC2 hBc2 F2 hown hgr hloc hO1 FD hN
  rintro m a' w3 ⟨j, V3, rfl, hj, hO3, F03, e, rfl⟩
  have hC3 := hC.fram F03 (fun b hb hx => by have := hB b hb; omega) (fun k hk hb h => h.fram F03 hb)
  have hBc3 := hC3.blk
  have hsz3 := F03.size
  have hpl := partT_len (ks.map (·.2)) j (by simp; omega)
  simp only [List.length_map] at hpl
  obtain ⟨ao3, co3, rfl⟩ := hO3.own.form
  refine c_seq (fun K11 hK11 => ?_)
  refine c_reg ?_ -- region 12 term.go:107
  refine wl (ro_cmp rfl rfl rfl) ?_
  refine wl_nil (x_then (hK11 _ _ ?_))
  clear hK11 K11
  refine forget [(0, _), (7, _), (38, _), (39, _), (40, _), (41, _)] ⟨rfl, rfl, rfl, rfl, rfl, rfl, trivial⟩ (fun e => ?_)
  refine c_seq (fun K12 hK12 => ?_)
  refine wc_cond rfl (fun hc41 => ?_) (fun hc41 => ?_)
  · try simp only [decide_eq_true_eq, decide_eq_false_iff_not, Bool.not_eq_true', Bool.not_eq_false', Bool.not_eq_eq_eq_not, Bool.not_true, Bool.not_false, beq_iff_eq, bne_iff_ne, ne_eq, beq_eq_false_iff_ne, bne_eq_false_iff_eq, gt_iff_lt, ge_iff_le, Int.not_lt, Int.not_le] at hc41
    have hjl : j < ks.length := by omega
    obtain ⟨k, hk⟩ : ∃ k, ks[j]? = some k := ⟨_, List.getElem?_eq_getElem hjl⟩
    have hkm := List.mem_of_getElem? hk
    obtain ⟨g, cap, l, hV, hBl, hc1, hc2, hl1, hl2⟩ := hC3.own.pos (by omega)
    cases hV
    have hcell := own_cell (i := j) hl2 (v := k.1) (by simp [hk])
    have hps := partT_step (ks := ks.map (·.2)) (j := j) (i := k.2) (by simp [hk])
    have hpl2 := partT_len (ks.map (·.2)) (j + 1) (by simp; omega)
    have hps2 := congrArg List.length hps
    simp only [List.length_append, List.length_map] at hpl2 hps2
    have h1l : (if j = 0 then ([40] : List UInt8) else [44]).length = 1 := by split <;> rfl
    refine c_skip (x_then (hK12 _ _ ?_))
    clear hK12 K12
    refine forget [(0, _), (7, _), (38, _), (39, _), (40, _)] ⟨rfl, rfl, rfl, rfl, rfl, trivial⟩ (fun e => ?_)
    refine c_seq (fun K13 hK13 => ?_)
    refine c_block ?_
    refine c_seq (fun K14 hK14 => ?_)
    refine c_reg ?_ -- region 13 term.go:107
    refine wl (ro_move rfl) ?_
    refine wl (ro_indexAddr (et := 195) (k := 1) rfl rfl se_190 rfl (hjl)) ?_
    refine wl (ro_loadB rfl sc_195 (hBl) ((by rw [Nat.zero_add, Nat.mul_one]; exact hcell))) ?_
    refine wl (ro_assign rfl) ?_
    refine wl (ro_assign rfl) ?_
    refine wl_nil (x_then (hK14 _ _ ?_))
    clear hK14 K14
    refine c_seq (fun K15 hK15 => ?_)
    refine c_seq (fun K16 hK16 => ?_)
    refine c_reg ?_ -- region 14 term.go:108
    refine wl (ro_move rfl) ?_
    refine wl (ro_cmp (r := decide (j = 0)) rfl rfl (congrArg some (beqc j 0))) ?_
    refine wl_nil (x_then (hK16 _ _ ?_))
    clear hK16 K16
    refine wc_cond rfl (fun hc46 => ?_) (fun hc46 => ?_)
    · try simp only [decide_eq_true_eq, decide_eq_false_iff_not, Bool.not_eq_true', Bool.not_eq_false', Bool.not_eq_eq_eq_not, Bool.not_true, Bool.not_false, beq_iff_eq, bne_iff_ne, ne_eq, beq_eq_false_iff_ne, bne_eq_false_iff_eq, gt_iff_lt, ge_iff_le, Int.not_lt, Int.not_le] at hc46
      have hj0 : j = 0 := by simpa using hc46
      rw [if_pos hj0] at hps
      refine c_reg ?_ -- region 15 term.go:109
      refine wl (ro_move rfl) ?_
      refine wle (eo_bs1 rfl rfl se_66 zx_5 rfl rfl rfl) ?_
      have hN := Blk.new w3 [u8c 40] 5
      have FD := Fram.alloc none' w3 (.cells [u8c 40].toArray 5)
      have hO4 := hO3.none FD
      refine wl_app (news := [u8c 40]) rfl rfl se_66 zx_5 by_5 rfl hO4.own hN rfl rfl (by simp [u8c, Value.oneCell']) (by simp; omega) (by simp; omega) ?_
      intro V5 w5 hown hgr hloc
      obtain ⟨hO5, F5⟩ := hO4.grown (w0 := w) (xs := [40]) hbw (by have := FD.size; omega) hgr hloc hown (by simp; omega)
      have F05 : Fram (fun b => base ≤ b) w w5 := (F03.trans (FD.mono (fun _ _ h => h.elim))).trans F5
      refine wl (ro_assign rfl) ?_
      refine wl_nil (x_then (hK15 _ _ ?_))
      clear hK15 K15
      have hC5 := hC.fram F05 (fun b hb hx => by have := hB b hb; omega) (fun k hk hb h => h.fram F05 hb)
      have hsz5 := F05.size
      refine c_reg ?_ -- region 17 term.go:113
      refine wl (ro_move rfl) ?_
      refine wl (ro_move rfl) ?_
      refine wl_call rfl en_109 (IH w5 V5 _ k.1 k.2 (hC5.kids k hkm) (hkB k hkm) (by omega) hO5 (by simp only [List.length_append, List.length_cons, List.length_nil]; omega)) ?_
      rintro V6 w6 ⟨hO6, F6⟩
      refine wl (ro_assign rfl) ?_
      refine wl_nil (x_blk (x_then (hK13 _ _ ?_)))
      clear hK13 K13
      refine c_reg ?_ -- region 18 term.go:107
      refine wl (ro_arith rfl rfl rfl (Go.IntWalk.i64_in _ (by omega))) ?_
      refine wl (ro_move rfl) ?_
      refine wl_nil (x_then ?_)
      refine ⟨ks.length - (j + 1), by omega, j + 1, V6, rfl, by omega, ?_, F05.trans F6, kp _ ⟨rfl, rfl, rfl, rfl, rfl, trivial⟩⟩
      rw [hps]
      simpa using hO6
    · try simp only [decide_eq_true_eq, decide_eq_false_iff_not, Bool.not_eq_true', Bool.not_eq_false', Bool.not_eq_eq_eq_not, Bool.not_true, Bool.not_false, beq_iff_eq, bne_iff_ne, ne_eq, beq_eq_false_iff_ne, bne_eq_false_iff_eq, gt_iff_lt, ge_iff_le, Int.not_lt, Int.not_le] at hc46
      have hj0 : j ≠ 0 := by simpa using hc46
      rw [if_neg hj0] at hps
      refine c_reg ?_ -- region 16 term.go:111
      refine wl (ro_move rfl) ?_
      refine wle (eo_bs1 rfl rfl se_66 zx_5 rfl rfl rfl) ?_
      have hN := Blk.new w3 [u8c 44] 5
      have FD := Fram.alloc none' w3 (.cells [u8c 44].toArray 5)
      have hO4 := hO3.none FD
      refine wl_app (news := [u8c 44]) rfl rfl se_66 zx_5 by_5 rfl hO4.own hN rfl rfl (by simp [u8c, Value.oneCell']) (by simp; omega) (by simp; omega) ?_
      intro V5 w5 hown hgr hloc
      obtain ⟨hO5, F5⟩ := hO4.grown (w0 := w) (xs := [44]) hbw (by have := FD.size; omega) hgr hloc hown (by simp; omega)
      have F05 : Fram (fun b => base ≤ b) w w5 := (F03.trans (FD.mono (fun _ _ h => h.elim))).trans F5
      refine wl (ro_assign rfl) ?_
      refine wl_nil (x_then (hK15 _ _ ?_))
      clear hK15 K15
      have hC5 := hC.fram F05 (fun b hb hx => by have := hB b hb; omega) (fun k hk hb h => h.fram F05 hb)
      have hsz5 := F05.size
      refine c_reg ?_ -- region 17 term.go:113
      refine wl (ro_move rfl) ?_
      refine wl (ro_move rfl) ?_
      refine wl_call rfl en_109 (IH w5 V5 _ k.1 k.2 (hC5.kids k hkm) (hkB k hkm) (by omega) hO5 (by simp only [List.length_append, List.length_cons, List.length_nil]; omega)) ?_
      rintro V6 w6 ⟨hO6, F6⟩
      refine wl (ro_assign rfl) ?_
      refine wl_nil (x_blk (x_then (hK13 _ _ ?_)))
      clear hK13 K13
      refine c_reg ?_ -- region 18 term.go:107
      refine wl (ro_arith rfl rfl rfl (Go.IntWalk.i64_in _ (by omega))) ?_
      refine wl (ro_move rfl) ?_
      refine wl_nil (x_then ?_)
      refine ⟨ks.length - (j + 1), by omega, j + 1, V6, rfl, by omega, ?_, F05.trans F6, kp _ ⟨rfl, rfl, rfl, rfl, rfl, trivial⟩⟩
      rw [hps]
      simpa using hO6
  · try simp only [decide_eq_true_eq, decide_eq_false_iff_not, Bool.not_eq_true', Bool.not_eq_false', Bool.not_eq_eq_eq_not, Bool.not_true, Bool.not_false, beq_iff_eq, bne_iff_ne, ne_eq, beq_eq_false_iff_ne, bne_eq_false_iff_eq, gt_iff_lt, ge_iff_le, Int.not_lt, Int.not_le] at hc41
    obtain rfl : j = ks.length := by omega
    refine c_exit (x_thenX (x_thenX (x_blkX (x_then (hK9 _ _ ?_)))))
    clear hK12 K12 hK9 K9
    refine forget [(0, _), (7, _)] ⟨rfl, rfl, trivial⟩ (fun e => ?_)
    refine c_seq (fun K17 hK17 => ?_)
    refine c_reg ?_ -- region 19 term.go:115
    refine wl (ro_move rfl) ?_
    refine wl (ro_nilCheck rfl) ?_
    refine wl (ro_fieldAddr (k := 1) rfl fo_193_1) ?_
    refine wl (ro_loadB rfl sc_190 (hBc3) rfl) ?_
    refine wl (ro_lenL rfl se_190) ?_
    refine wl (ro_cmp (r := decide (0 < ks.length)) rfl rfl (congrArg some (by simp))) ?_
    refine wl_nil (x_then (hK17 _ _ ?_))
    clear hK17 K17
    refine wc_cond rfl (fun hc62 => ?_) (fun hc62 => ?_)
    · try simp only [decide_eq_true_eq, decide_eq_false_iff_not, Bool.not_eq_true', Bool.not_eq_false', Bool.not_eq_eq_eq_not, Bool.not_true, Bool.not_false, beq_iff_eq, bne_iff_ne, ne_eq, beq_eq_false_iff_ne, bne_eq_false_iff_eq, gt_iff_lt, ge_iff_le, Int.not_lt, Int.not_le] at hc62
      have hk0 : 0 < ks.length := by simpa using hc62
      have hkn : ¬ ks.map (·.2) = [] := by intro hx; have := congrArg List.length hx; simp at this; rw [this] at hk0; simp at hk0
      refine c_reg ?_ -- region 20 term.go:116
      refine wl (ro_move rfl) ?_
      refine wle (eo_bs1 rfl rfl se_66 zx_5 rfl rfl rfl) ?_
      have hN := Blk.new w3 [u8c 41] 5
      have FD := Fram.alloc none' w3 (.cells [u8c 41].toArray 5)
      have hO4 := hO3.none FD
      refine wl_app (news := [u8c 41]) rfl rfl se_66 zx_5 by_5 rfl hO4.own hN rfl rfl (by simp [u8c, Value.oneCell']) (by simp; omega) (by simp; omega) ?_
      intro V5 w5 hown hgr hloc
      obtain ⟨hO5, F5⟩ := hO4.grown (w0 := w) (xs := [41]) hbw (by have := FD.size; omega) hgr hloc hown (by simp; omega)
      have F05 : Fram (fun b => base ≤ b) w w5 := (F03.trans (FD.mono (fun _ _ h => h.elim))).trans F5
      refine wl (ro_assign rfl) ?_
      refine wl_nil (x_blk (x_then (hK2 _ _ ?_)))
      clear hK2 K2
      refine forget [(0, _)] ⟨rfl, trivial⟩ (fun e => ?_)
      refine c_seq (fun K18 hK18 => ?_)
      refine c_reg ?_ -- region 21 term.go:119
      refine wl (ro_move rfl) ?_
      refine wl (ro_assign rfl) ?_
      refine wl_nil (x_then (hK18 _ _ ?_))
      clear hK18 K18
      refine c_ret ?_
      refine bp_ret Tryz.results109 rfl ?_
      refine ⟨?_, F05⟩
      rw [if_neg hkn]
      simpa using hO5
    · try simp only [decide_eq_true_eq, decide_eq_false_iff_not, Bool.not_eq_true', Bool.not_eq_false', Bool.not_eq_eq_eq_not, Bool.not_true, Bool.not_false, beq_iff_eq, bne_iff_ne, ne_eq, beq_eq_false_iff_ne, bne_eq_false_iff_eq, gt_iff_lt, ge_iff_le, Int.not_lt, Int.not_le] at hc62
      have hk0 : ¬ 0 < ks.length := by simpa using hc62
      have hkn : ks.map (·.2) = [] := by have : ks = [] := List.eq_nil_of_length_eq_zero (by omega); rw [this]; rfl
      refine c_skip (x_blk (x_then (hK2 _ _ ?_)))
      clear hK2 K2
      refine forget [(0, _)] ⟨rfl, trivial⟩ (fun e => ?_)
      refine c_seq (fun K19 hK19 => ?_)
      refine c_reg ?_ -- region 21 term.go:119
      refine wl (ro_move rfl) ?_
      refine wl (ro_assign rfl) ?_
      refine wl_nil (x_then (hK19 _ _ ?_))
      clear hK19 K19
      refine c_ret ?_
      refine bp_ret Tryz.results109 rfl ?_
      refine ⟨?_, F03⟩
      rw [if_pos hkn]
      simpa using hO3

theorem text109 : ∀ (d base : Nat), XSpec d base
  | 0, base => fun w V out v i h => h.elim
  | d + 1, base => fun w V out v i h hB hbw hO hlen => by
    rcases h with ⟨c, k, rfl, hk, rfl⟩ | ⟨rfl, rfl⟩ | ⟨cb, c, VA, ks, rfl, hC, hk3, _, htx, _, _⟩
    · obtain ⟨ao, co, rfl⟩ := hO.own.form
      simp only [List.length_singleton] at hlen
      refine ret_of Tryz.func109 rfl Tryz.ntmps109 rfl ?_
      refine c_seq (fun K1 hK1 => ?_)
      refine c_reg ?_ -- region 0 term.go:99
      refine wl (ro_assign rfl) ?_
      refine wl_nil (x_then (hK1 _ _ ?_))
      clear hK1 K1
      refine c_seq (fun K2 hK2 => ?_)
      refine c_seq (fun K3 hK3 => ?_)
      refine c_reg ?_ -- region 1 term.go:100
      refine wl (ro_move rfl) ?_
      refine wl_nil (x_then (hK3 _ _ ?_))
      clear hK3 K3
      refine c_block ?_
      refine forget [(0, _), (10, _)] ⟨rfl, rfl, trivial⟩ (fun e => ?_)
      refine c_seq (fun K4 hK4 => ?_)
      refine c_reg ?_ -- region 2 term.go:100
      refine wl (ro_taY rfl ni_214) ?_
      refine wl (ro_extract rfl rfl) ?_
      refine wl (ro_extract rfl rfl) ?_
      refine wl_nil (x_then (hK4 _ _ ?_))
      clear hK4 K4
      refine wc_condT rfl ?_
      refine c_seq (fun K5 hK5 => ?_)
      refine c_reg ?_ -- region 3 term.go:100
      refine wle (eo_alloc ze_214) ?_
      have hN := Blk.new w [u8c 0, i64c 0] 214
      refine wls (so_storeAggB rfl rfl (by simp [Value.oneCell', i32c, u8c, i64c, i8c]) sz_214 rfl (hN) (by simp)) ?_
      have F2 : Fram none' w (World.setRow (w.alloc (.cells [u8c 0, i64c 0].toArray 214)) w.heap.size [u8c c, i64c k].toArray) := (Fram.alloc none' w _).trans' (Fram.set (F := fun b => b = w.heap.size) _ w.heap.size _ (.inl rfl)) (fun k hk hx => absurd hx (by omega))
      have hV := hN.set [u8c c, i64c k]
      refine gen2 (A := fun w2 => Fram none' w w2) (B := fun w2 => Blk w2.heap w.heap.size [u8c c, i64c k] 214) (C := fun w2 => WL _ _ _ _ _ w2) F2 hV ?_
      clear F2 hN hV
      intro w2 F2 hV
      have hO2 := hO.none F2
      refine wl_nil (x_then (hK5 _ _ ?_))
      clear hK5 K5
      refine c_reg ?_ -- region 4 term.go:102
      refine wl (ro_move rfl) ?_
      refine wl (ro_fieldAddr (k := 0) rfl fo_214_0) ?_
      refine wl (ro_loadB rfl sc_5 (hV) rfl) ?_
      refine wle (eo_bs1 rfl rfl se_66 zx_5 rfl rfl rfl) ?_
      have hN3 := Blk.new w2 [u8c c] 5
      have FD := F2.thenAlloc (o := .cells [u8c c].toArray 5)
      have hO3 := hO.none FD
      refine wl_app (news := [u8c c]) rfl rfl se_66 zx_5 by_5 rfl hO3.own hN3 rfl rfl (by simp [u8c, Value.oneCell']) (by omega) (by omega) ?_
      intro V4 w4 hown hgr hloc
      obtain ⟨hO4, F4⟩ := hO3.grown (w0 := w) (xs := [c]) hbw FD.size hgr hloc hown (by simp)
      refine wl (ro_assign rfl) ?_
      refine wl_nil (x_blk (x_then (hK2 _ _ ?_)))
      clear hK2 K2
      refine forget [(0, _)] ⟨rfl, trivial⟩ (fun e => ?_)
      refine c_seq (fun K6 hK6 => ?_)
      refine c_reg ?_ -- region 21 term.go:119
      refine wl (ro_move rfl) ?_
      refine wl (ro_assign rfl) ?_
      refine wl_nil (x_then (hK6 _ _ ?_))
      clear hK6 K6
      refine c_ret ?_
      refine bp_ret Tryz.results109 rfl ?_
      exact ⟨hO4, (FD.mono (fun _ _ h => h.elim)).trans F4⟩
    · obtain ⟨ao, co, rfl⟩ := hO.own.form
      simp only [List.length_cons, List.length_nil] at hlen
      refine ret_of Tryz.func109 rfl Tryz.ntmps109 rfl ?_
      refine c_seq (fun K1 hK1 => ?_)
      refine c_reg ?_ -- region 0 term.go:99
      refine wl (ro_assign rfl) ?_
      refine wl_nil (x_then (hK1 _ _ ?_))
      clear hK1 K1
      refine c_seq (fun K2 hK2 => ?_)
      refine c_seq (fun K3 hK3 => ?_)
      refine c_reg ?_ -- region 1 term.go:100
      refine wl (ro_move rfl) ?_
      refine wl_nil (x_then (hK3 _ _ ?_))
      clear hK3 K3
      refine c_block ?_
      refine forget [(0, _), (10, _)] ⟨rfl, rfl, trivial⟩ (fun e => ?_)
      refine c_seq (fun K4 hK4 => ?_)
      refine c_reg ?_ -- region 2 term.go:100
      refine wl (ro_taN rfl ni_214 rfl zr_214) ?_
      refine wl (ro_extract rfl rfl) ?_
      refine wl (ro_extract rfl rfl) ?_
      refine wl_nil (x_then (hK4 _ _ ?_))
      clear hK4 K4
      refine wc_condF rfl ?_
      refine c_seq (fun K5 hK5 => ?_)
      refine c_reg ?_ -- region 5 term.go:100
      refine wl (ro_taY rfl ni_220) ?_
      refine wl (ro_extract rfl rfl) ?_
      refine wl (ro_extract rfl rfl) ?_
      refine wl_nil (x_then (hK5 _ _ ?_))
      clear hK5 K5
      refine wc_condT rfl ?_
      refine c_seq (fun K6 hK6 => ?_)
      refine c_reg ?_ -- region 6 term.go:100
      refine wle (eo_alloc ze_220) ?_
      have hN := Blk.new w [] 220
      refine wls (so_storeAggB rfl rfl ((by simp)) sz_220 rfl (hN) ((by simp))) ?_
      have F2 : Fram none' w (World.setRow (w.alloc (.cells [].toArray 220)) w.heap.size [].toArray) := (Fram.alloc none' w _).trans' (Fram.set (F := fun b => b = w.heap.size) _ w.heap.size _ (.inl rfl)) (fun k hk hx => absurd hx (by omega))
      refine gen2 (A := fun w2 => Fram none' w w2) (B := fun w2 => True) (C := fun w2 => WL _ _ _ _ _ w2) F2 trivial ?_
      clear F2 hN
      intro w2 F2 _
      have hO2 := hO.none F2
      refine wl_nil (x_then (hK6 _ _ ?_))
      clear hK6 K6
      refine c_reg ?_ -- region 7 term.go:104
      refine wl (ro_move rfl) ?_
      refine wle (eo_bs1 rfl rfl se_66 zx_5 rfl rfl rfl) ?_
      have hN3 := Blk.new w2 [u8c 33] 5
      have FD := F2.thenAlloc (o := .cells [u8c 33].toArray 5)
      have hO3 := hO.none FD
      refine wl_app (news := [u8c 33]) rfl rfl se_66 zx_5 by_5 rfl hO3.own hN3 rfl rfl (by simp [u8c, Value.oneCell']) (by omega) (by omega) ?_
      intro V4 w4 hown hgr hloc
      obtain ⟨hO4, F4⟩ := hO3.grown (w0 := w) (xs := [33]) hbw FD.size hgr hloc hown (by simp)
      refine wl (ro_assign rfl) ?_
      refine wl_nil (x_blk (x_then (hK2 _ _ ?_)))
      clear hK2 K2
      refine forget [(0, _)] ⟨rfl, trivial⟩ (fun e => ?_)
      refine c_seq (fun K7 hK7 => ?_)
      refine c_reg ?_ -- region 21 term.go:119
      refine wl (ro_move rfl) ?_
      refine wl (ro_assign rfl) ?_
      refine wl_nil (x_then (hK7 _ _ ?_))
      clear hK7 K7
      refine c_ret ?_
      refine bp_ret Tryz.results109 rfl ?_
      exact ⟨hO4, (FD.mono (fun _ _ h => h.elim)).trans F4⟩
    · rw [htx] at hlen ⊢
      exact text109c (text109 d base) hC hB hbw hO (by omega) hlen

theorem made_out (w : World) (cap : Nat) (hc : cap ≤ 1000) : Out w.heap.size (w.alloc (.cells (madeCells [Value.int .u8 0].toArray (cap * 1)) 5)) (.slice (some ⟨w.heap.size, 0, none⟩) 0 cap) [] := by
  refine ⟨⟨rfl, .inr ⟨_, cap, List.replicate cap (.int .u8 0), rfl, (by rw [made_zero, Nat.mul_one]; exact Blk.new _ _ _), by simp, by omega, by simp, by simp⟩⟩, ?_⟩
  intro b hb
  cases hb
  exact Nat.le_refl _

theorem code54 {w : World} {clb : Nat} {q : Bool} {s code : List UInt8} {Bs : List Nat} (hcl : ClAt w.heap clb q s code Bs) (hc : code.length ≤ 1000) : Ret Tryz.prog 54 [ptr clb] w (fun r w' => r = S code ∧ Fram none' w w') := by
  obtain ⟨rtb, VA, ks, B, h1, h2, h3, h4, h5, h6, h8, h7⟩ := hcl
  have hlt := h2.lt (fun v i h => h.lt)
  have hcc : codeC (rootF q) (ks.map (·.2)) = code := by rw [h3]; simp [codeC, List.flatMap_map]
  refine ret_of Tryz.func54 rfl Tryz.ntmps54 rfl ?_
  refine c_seq (fun K1 hK1 => ?_)
  refine c_reg ?_ -- region 0 term.go:123
  refine wl (ro_assign rfl) ?_
  refine wl_nil (x_then (hK1 _ _ ?_))
  clear hK1 K1
  refine forget [(0, _)] ⟨rfl, trivial⟩ (fun e => ?_)
  refine c_seq (fun K2 hK2 => ?_)
  refine c_reg ?_ -- region 1 term.go:124
  refine wle (eo_make (len := 0) (cap := 48) rfl rfl se_66 ze_5 (by omega) (by omega) rfl bb_5) ?_
  have hO := made_out w 48 (by omega)
  have F1 : Fram none' w (w.alloc (.cells (madeCells [Value.int .u8 0].toArray (48 * 1)) 5)) := Fram.alloc none' w _
  refine gen2 (A := fun w1 => Out w.heap.size w1 (.slice (some ⟨w.heap.size, 0, none⟩) 0 48) []) (B := fun w1 => Fram none' w w1) (C := fun w1 => WL _ _ _ _ _ w1) hO F1 ?_
  clear hO F1
  intro w1 hO F1
  have h11 := h1.fram F1 (fun h => h)
  have h21 := h2.fram F1 (fun _ _ h => h) (fun k hk hb h => h.fram F1 hb)
  have hsz := F1.size
  refine wl (ro_assign rfl) ?_
  refine wl_nil (x_then (hK2 _ _ ?_))
  clear hK2 K2
  refine forget [(0, _), (3, _)] ⟨rfl, rfl, trivial⟩ (fun e => ?_)
  refine c_seq (fun K3 hK3 => ?_)
  refine c_reg ?_ -- region 2 term.go:125
  refine wl (ro_move rfl) ?_
  refine wl (ro_move rfl) ?_
  refine wl (ro_nilCheck rfl) ?_
  refine wl (ro_fieldAddr (k := 0) rfl fo_174_0) ?_
  refine wl (ro_loadB rfl sc_155 (h11) rfl) ?_
  refine wl (ro_mkIface rfl (by kernel_rfl)) ?_
  refine wl_call rfl en_98 (code98c (code98 41 w.heap.size) h21 hlt hsz hO (by omega) (by rw [hcc]; simp; omega)) ?_
  rintro V2 w2 ⟨hO2, F2⟩
  rw [hcc, List.nil_append] at hO2
  obtain ⟨g, cap, l, rfl, hBl, hc1, hc2, hl1, hl2⟩ := hO2.own.pos (by rw [h3]; simp)
  refine wl (ro_assign rfl) ?_
  refine wl_nil (x_then (hK3 _ _ ?_))
  clear hK3 K3
  refine forget [(3, _)] ⟨rfl, trivial⟩ (fun e => ?_)
  refine c_seq (fun K4 hK4 => ?_)
  refine c_reg ?_ -- region 3 term.go:126
  refine wl (ro_move rfl) ?_
  refine wl (ro_b2s (bs := code) rfl se_66 in_5 st_9 hBl (by rw [List.drop_zero]; simpa using hl2) rfl) ?_
  refine wl (ro_assign rfl) ?_
  refine wl_nil (x_then (hK4 _ _ ?_))
  clear hK4 K4
  refine c_ret ?_
  refine bp_ret Tryz.results54 rfl ?_
  exact ⟨rfl, F1.trans' F2 (fun k hk hx => absurd hx (by omega))⟩

end Go.Proofs.Qxb6500569aGreat
