import Derived.Test.Qxb6500569aGreatVb
/- The real program: a clause's text, head, functor, own key; ids spelt. -/
namespace Go.Proofs.Qxb6500569aGreat
set_option linter.unusedVariables false
set_option linter.unusedSimpArgs false

/-- What is written of a body ahead of its j-th goal. -/
def partG (gs : List TI) (j : Nat) : List UInt8 := if j = 0 then [] else joinT (gs.take j)

theorem partG_step {ks : List TI} {j : Nat} {i : TI} (h : ks[j]? = some i) : partG ks (j + 1) = partG ks j ++ (if j = 0 then [] else [44]) ++ i.text := by
  unfold partG
  rw [if_neg (by omega), List.take_add_one, h]
  simp only [Option.toList_some]
  rw [joinT_snoc]
  by_cases hj : j = 0
  · subst hj; simp [preT]
  · rw [if_neg hj, if_neg hj]
    have hl := (List.getElem?_eq_some_iff.1 h).1
    have : ks.take j ≠ [] := by intro hx; have := congrArg List.length hx; rw [List.length_take] at this; simp only [List.length_nil] at this; omega
    simp [preT, this]

theorem partG_len (ks : List TI) : ∀ (j : Nat), j ≤ ks.length → (partG ks j).length ≤ (partG ks ks.length).length := by
  intro j hj
  obtain ⟨n, hn⟩ : ∃ n, n = ks.length - j := ⟨_, rfl⟩
  induction n generalizing j with
  | zero =>
    have : j = ks.length := by omega
    subst this; omega
  | succ n ih =>
    obtain ⟨i, hi⟩ : ∃ i, ks[j]? = some i := ⟨_, List.getElem?_eq_getElem (by omega)⟩
    have h1 := ih (j + 1) (by omega) (by omega)
    have h2 := congrArg List.length (partG_step hi)
    simp only [List.length_append] at h2
    omega

theorem text69 {w : World} {clb : Nat} {s code : List UInt8} {Bs : List Nat} (hcl : ClAt w.heap clb false s code Bs) (hs : s.length ≤ 1000) (hs0 : 0 < s.length) : Ret Tryz.prog 69 [ptr clb] w (fun r w' => r = S s ∧ Fram none' w w') := by
  obtain ⟨rtb, VA, ks, B, h1, h2, h3, h4, h5, h6, h8, h7⟩ := hcl
  obtain ⟨hcb, i0, gs, rfl⟩ := h5 rfl
  have hlt := h2.lt (fun v i h => h.lt)
  have hkB : ∀ k ∈ ((Value.iface 155 (ptr hcb), i0) : Value × TI) :: gs, ∀ b ∈ k.2.B, b < w.heap.size := fun k hk b hb => hlt b (by rw [h2.bs]; simp only [List.mem_cons, List.mem_append, List.mem_flatMap] at hk ⊢; exact .inr (.inr ⟨k, by simpa using hk, hb⟩))
  obtain ⟨g, cap, l, rfl, hBl0, hc1, hc2, hl1, hl2⟩ := h2.own.pos (by simp)
  simp only [List.length_cons] at hc1
  have htx : s = i0.text ++ (if gs.map (·.2) = [] then [] else [58, 45] ++ joinT (gs.map (·.2))) := by rw [← h4]; simp [textR]
  have hjl : (partG (gs.map (·.2)) gs.length) = if gs.map (·.2) = [] then [] else joinT (gs.map (·.2)) := by
    unfold partG
    by_cases hg : gs = []
    · subst hg; simp
    · have : gs.length ≠ 0 := fun hx => hg (List.eq_nil_of_length_eq_zero hx)
      rw [if_neg this, if_neg (by simpa using hg), ← List.length_map (f := (·.2)), List.take_length]
  have hlen : i0.text.length + (if gs = [] then 0 else 2) + (partG (gs.map (·.2)) gs.length).length = s.length := by
    rw [hjl, htx]
    by_cases hg : gs = []
    · subst hg; simp
    · simp [hg]; omega
  have hcell0 := own_cell (i := 0) hl2 (v := Value.iface 155 (ptr hcb)) (by simp)
  have h21b : Blk w.heap rtb [u8c 58, .slice (some ⟨g, 0, none⟩) (gs.length + 1) cap] 193 := h2.blk
  obtain ⟨ga, hga⟩ : ∃ ga : Addr, ga = (if cap = 1 then ⟨g, 0, none⟩ else ⟨g, 0 + 1 * 1, none⟩) := ⟨_, rfl⟩
  have hgo := goals108c h1 h21b (by omega)
  rw [← hga] at hgo
  refine ret_of Tryz.func69 rfl Tryz.ntmps69 rfl ?_
  refine c_seq (fun K1 hK1 => ?_)
  refine c_reg ?_ -- region 0 term.go:130
  refine wl (ro_assign rfl) ?_
  refine wl_nil (x_then (hK1 _ _ ?_))
  clear hK1 K1
  refine forget [(0, _)] ⟨rfl, trivial⟩ (fun e => ?_)
  refine c_seq (fun K2 hK2 => ?_)
  refine c_reg ?_ -- region 1 term.go:131
  refine wle (eo_make (len := 0) (cap := 40) rfl rfl se_66 ze_5 (by omega) (by omega) rfl bb_5) ?_
  have hO := made_out w 40 (by omega)
  have F1 : Fram none' w (w.alloc (.cells (madeCells [Value.int .u8 0].toArray (40 * 1)) 5)) := Fram.alloc none' w _
  refine gen2 (A := fun w1 => Out w.heap.size w1 (.slice (some ⟨w.heap.size, 0, none⟩) 0 40) []) (B := fun w1 => Fram none' w w1) (C := fun w1 => WL _ _ _ _ _ w1) hO F1 ?_
  clear hO F1
  intro w1 hO F1
  have h11 := h1.fram F1 (fun h => h)
  have h21 := h2.fram F1 (fun _ _ h => h) (fun k hk hb h => h.fram F1 hb)
  have hrt1 : Blk w1.heap rtb [u8c 58, .slice (some ⟨g, 0, none⟩) (gs.length + 1) cap] 193 := h21.blk
  have hBl1 := hBl0.fram F1 (fun h => h)
  have hsz := F1.size
  have hgo := goals108c h11 hrt1 (by omega)
  rw [← hga] at hgo
  refine wl (ro_assign rfl) ?_
  refine wl_nil (x_then (hK2 _ _ ?_))
  clear hK2 K2
  refine forget [(0, _), (3, _)] ⟨rfl, rfl, trivial⟩ (fun e => ?_)
  refine c_seq (fun K3 hK3 => ?_)
  refine c_reg ?_ -- region 2 term.go:132
  refine wl (ro_move rfl) ?_
  refine wl_call rfl en_108 (hgo) ?_
  rintro _ w1 ⟨rfl, rfl⟩
  refine wl (ro_assign rfl) ?_
  refine wl_nil (x_then (hK3 _ _ ?_))
  clear hK3 K3
  refine c_seq (fun K4 hK4 => ?_)
  refine c_seq (fun K5 hK5 => ?_)
  refine c_reg ?_ -- region 3 term.go:133
  refine wl (ro_move rfl) ?_
  refine wl (ro_nilCheck rfl) ?_
  refine wl (ro_fieldAddr (k := 0) rfl fo_174_0) ?_
  refine wl (ro_loadB rfl sc_155 (h11) rfl) ?_
  refine wl (ro_nilCheck rfl) ?_
  refine wl (ro_fieldAddr (k := 0) rfl fo_193_0) ?_
  refine wl (ro_loadB rfl sc_5 (hrt1) rfl) ?_
  refine wl (ro_cmp rfl rfl rfl) ?_
  refine wl_nil (x_then (hK5 _ _ ?_))
  clear hK5 K5
  refine wc_condT rfl ?_
  refine c_seq (fun K6 hK6 => ?_)
  refine c_reg ?_ -- region 4 term.go:134
  refine wl (ro_move rfl) ?_
  refine wl (ro_move rfl) ?_
  refine wl (ro_nilCheck rfl) ?_
  refine wl (ro_fieldAddr (k := 0) rfl fo_174_0) ?_
  refine wl (ro_loadB rfl sc_155 (h11) rfl) ?_
  refine wl (ro_nilCheck rfl) ?_
  refine wl (ro_fieldAddr (k := 1) rfl fo_193_1) ?_
  refine wl (ro_loadB rfl sc_190 (hrt1) rfl) ?_
  refine wl (ro_indexAddr (et := 195) (k := 1) rfl rfl se_190 rfl (Nat.succ_pos _)) ?_
  refine wl (ro_loadB rfl sc_195 (hBl1) ((by simpa using hcell0))) ?_
  refine wl_call rfl en_109 (text109 41 w.heap.size w1 _ [] (Value.iface 155 (ptr hcb)) i0 (h21.kids (Value.iface 155 (ptr hcb), i0) (by simp)) (hkB (Value.iface 155 (ptr hcb), i0) (by simp)) hsz hO (by simp; omega)) ?_
  rintro V2 w2 ⟨hO2, F2⟩
  rw [List.nil_append] at hO2
  have F02 := F1.mono (G := fun b => w.heap.size ≤ b) (fun _ _ h => h.elim) |>.trans F2
  obtain ⟨a2, c2, rfl⟩ := hO2.own.form
  obtain ⟨sep, hsep⟩ : ∃ sep : List UInt8, sep = if gs = [] then [] else [58, 45] := ⟨_, rfl⟩
  have hsl : sep.length = if gs = [] then 0 else 2 := by rw [hsep]; split <;> rfl
  refine wl (ro_assign rfl) ?_
  refine wl_nil (x_then (hK6 _ _ ?_))
  clear hK6 K6
  refine forget [(3, _), (4, _)] ⟨rfl, rfl, trivial⟩ (fun e => ?_)
  refine c_seq (fun K7 hK7 => ?_)
  refine c_reg ?_ -- region 5 term.go:135
  refine wl (ro_move rfl) ?_
  refine wl (ro_lenL rfl se_190) ?_
  refine wl (ro_cmp (r := decide (0 < gs.length)) rfl rfl (congrArg some (by simp))) ?_
  refine wl_nil (x_then (hK7 _ _ ?_))
  clear hK7 K7
  refine wc_cond rfl (fun hc31 => ?_) (fun hc31 => ?_)
  · try simp only [decide_eq_true_eq, decide_eq_false_iff_not, Bool.not_eq_true', Bool.not_eq_false', Bool.not_eq_eq_eq_not, Bool.not_true, Bool.not_false, beq_iff_eq, bne_iff_ne, ne_eq, beq_eq_false_iff_ne, bne_eq_false_iff_eq, gt_iff_lt, ge_iff_le, Int.not_lt, Int.not_le] at hc31
    have hg0 : gs ≠ [] := by have : 0 < gs.length := by { simpa using hc31 }; exact List.length_pos_iff.1 this
    have hse : sep = [58, 45] := by rw [hsep, if_neg hg0]
    refine c_reg ?_ -- region 6 term.go:136
    refine wl (ro_move rfl) ?_
    refine wle (eo_bs2 rfl rfl rfl rfl se_66 zx_5) ?_
    have hN := Blk.new w2 [u8c 58, u8c 45] 5
    have FD := Fram.alloc none' w2 (.cells [u8c 58, u8c 45].toArray 5)
    have hO3 := hO2.none FD
    refine wl_app (news := [u8c 58, u8c 45]) rfl rfl se_66 zx_5 by_5 rfl hO3.own hN rfl rfl (by simp [u8c, Value.oneCell']) (by omega) (by omega) ?_
    intro V4 w4 hown hgr hloc
    obtain ⟨hO4, F4⟩ := hO3.grown (w0 := w) (xs := [58, 45]) (Nat.le_refl _) (by have := FD.size; have := F02.size; omega) hgr hloc hown (by simp)
    have F04 : Fram (fun b => w.heap.size ≤ b) w w4 := (F02.trans (FD.mono (fun _ _ h => h.elim))).trans F4
    rw [← hse] at hO4
    refine wl (ro_assign rfl) ?_
    refine wl_nil (x_then (hK4 _ _ ?_))
    clear hK4 K4
    refine c_seq (fun K8 hK8 => ?_)
    refine c_seq (fun K9 hK9 => ?_)
    refine c_reg ?_ -- region 7 term.go:139
    refine wl (ro_move rfl) ?_
    refine wl (ro_lenL rfl se_190) ?_
    refine wl (ro_move rfl) ?_
    refine wl_nil (x_then (hK9 _ _ ?_))
    clear hK9 K9
    refine c_block ?_
    -- loop@r8: live slots [3, 35, 36, 37]
    refine c_loopG (fun m a' w' => ∃ j V', m = gs.length - j ∧ j ≤ gs.length ∧ Out w.heap.size w' V' (i0.text ++ sep ++ partG (gs.map (·.2)) j) ∧ Fram (fun b => w.heap.size ≤ b) w w' ∧ ∃ e, a' = Fr 53 (upds e [(3, V'), (35, .slice (some ga) gs.length (cap - 1)), (36, i64c gs.length), (37, i64c j)]) []) gs.length ⟨0, _, rfl, by omega, by simpa [partG] using hO4, F04, kp _ ⟨rfl, rfl, rfl, rfl, trivial⟩⟩ ?_
    clear hO4 F04
    rintro m a' w5 ⟨j, V5, rfl, hj, hO5, F05, e, rfl⟩
    have h25 := h2.fram F05 (fun b hb hx => absurd hx (by have := hlt b hb; omega)) (fun k hk hb h => h.fram F05 hb)
    have hBl5 := hBl0.fram F05 (fun hx => absurd hx (by have := hBl0.lt; omega))
    have hsz5 := F05.size
    have hpl := partG_len (gs.map (·.2)) j (by simp; omega)
    simp only [List.length_map] at hpl
    obtain ⟨a5, c5, rfl⟩ := hO5.own.form
    refine c_seq (fun K10 hK10 => ?_)
    refine c_reg ?_ -- region 8 term.go:139
    refine wl (ro_cmp rfl rfl rfl) ?_
    refine wl_nil (x_then (hK10 _ _ ?_))
    clear hK10 K10
    refine forget [(3, _), (35, _), (36, _), (37, _), (38, _)] ⟨rfl, rfl, rfl, rfl, rfl, trivial⟩ (fun e => ?_)
    refine c_seq (fun K11 hK11 => ?_)
    refine wc_cond rfl (fun hc38 => ?_) (fun hc38 => ?_)
    · try simp only [decide_eq_true_eq, decide_eq_false_iff_not, Bool.not_eq_true', Bool.not_eq_false', Bool.not_eq_eq_eq_not, Bool.not_true, Bool.not_false, beq_iff_eq, bne_iff_ne, ne_eq, beq_eq_false_iff_ne, bne_eq_false_iff_eq, gt_iff_lt, ge_iff_le, Int.not_lt, Int.not_le] at hc38
      have hjl' : j < gs.length := by omega
      obtain ⟨k, hk⟩ : ∃ k, gs[j]? = some k := ⟨_, List.getElem?_eq_getElem hjl'⟩
      have hkm := List.mem_of_getElem? hk
      have hcap : cap ≠ 1 := by omega
      have hgaa : ga = ⟨g, 0 + 1 * 1, none⟩ := by rw [hga, if_neg hcap]
      have hcell := own_cell (i := j + 1) hl2 (v := k.1) (by simp [hk])
      have hps := partG_step (ks := gs.map (·.2)) (j := j) (i := k.2) (by simp [hk])
      have hpl2 := partG_len (gs.map (·.2)) (j + 1) (by simp; omega)
      have hps2 := congrArg List.length hps
      simp only [List.length_append, List.length_map] at hpl2 hps2
      rw [hgaa]
      refine c_skip (x_then (hK11 _ _ ?_))
      clear hK11 K11
      refine forget [(3, _), (35, _), (36, _), (37, _)] ⟨rfl, rfl, rfl, rfl, trivial⟩ (fun e => ?_)
      refine c_seq (fun K12 hK12 => ?_)
      refine c_block ?_
      refine c_seq (fun K13 hK13 => ?_)
      refine c_reg ?_ -- region 9 term.go:139
      refine wl (ro_move rfl) ?_
      refine wl (ro_indexAddr (et := 195) (k := 1) rfl rfl se_190 rfl (hjl')) ?_
      refine wl (ro_loadB rfl sc_195 (hBl5) ((by rw [show 0 + 1 * 1 + j * 1 = j + 1 by omega]; exact hcell))) ?_
      refine wl (ro_assign rfl) ?_
      refine wl (ro_assign rfl) ?_
      refine wl_nil (x_then (hK13 _ _ ?_))
      clear hK13 K13
      refine c_seq (fun K14 hK14 => ?_)
      refine c_seq (fun K15 hK15 => ?_)
      refine c_reg ?_ -- region 10 term.go:140
      refine wl (ro_move rfl) ?_
      refine wl (ro_cmp (r := decide (0 < j)) rfl rfl (congrArg some (by simp))) ?_
      refine wl_nil (x_then (hK15 _ _ ?_))
      clear hK15 K15
      refine wc_cond rfl (fun hc43 => ?_) (fun hc43 => ?_)
      · try simp only [decide_eq_true_eq, decide_eq_false_iff_not, Bool.not_eq_true', Bool.not_eq_false', Bool.not_eq_eq_eq_not, Bool.not_true, Bool.not_false, beq_iff_eq, bne_iff_ne, ne_eq, beq_eq_false_iff_ne, bne_eq_false_iff_eq, gt_iff_lt, ge_iff_le, Int.not_lt, Int.not_le] at hc43
        have hj0 : j ≠ 0 := by have : 0 < j := by { simpa using hc43 }; omega
        rw [if_neg hj0] at hps hps2
        refine c_reg ?_ -- region 11 term.go:141
        refine wl (ro_move rfl) ?_
        refine wle (eo_bs1 rfl rfl se_66 zx_5 rfl rfl rfl) ?_
        have hN := Blk.new w5 [u8c 44] 5
        have FD := Fram.alloc none' w5 (.cells [u8c 44].toArray 5)
        have hO6 := hO5.none FD
        refine wl_app (news := [u8c 44]) rfl rfl se_66 zx_5 by_5 rfl hO6.own hN rfl rfl (by simp [u8c, Value.oneCell']) (by simp only [List.length_append]; omega) (by simp only [List.length_append]; omega) ?_
        intro V7 w7 hown hgr hloc
        obtain ⟨hO7, F7⟩ := hO6.grown (w0 := w) (xs := [44]) (Nat.le_refl _) (by have := FD.size; omega) hgr hloc hown (by simp; omega)
        have F07 : Fram (fun b => w.heap.size ≤ b) w w7 := (F05.trans (FD.mono (fun _ _ h => h.elim))).trans F7
        refine wl (ro_assign rfl) ?_
        refine wl_nil (x_then (hK14 _ _ ?_))
        clear hK14 K14
        have h27 := h2.fram F07 (fun b hb hx => absurd hx (by have := hlt b hb; omega)) (fun k hk hb h => h.fram F07 hb)
        have hsz7 := F07.size
        refine c_reg ?_ -- region 12 term.go:143
        refine wl (ro_move rfl) ?_
        refine wl (ro_move rfl) ?_
        refine wl_call rfl en_109 (text109 41 w.heap.size w7 V7 _ k.1 k.2 (h27.kids k (by simp [hkm])) (hkB k (by simp [hkm])) (by omega) hO7 (by simp only [List.length_append, List.length_cons, List.length_nil] at hps2 ⊢; omega)) ?_
        rintro V8 w8 ⟨hO8, F8⟩
        refine wl (ro_assign rfl) ?_
        refine wl_nil (x_blk (x_then (hK12 _ _ ?_)))
        clear hK12 K12
        refine c_reg ?_ -- region 13 term.go:139
        refine wl (ro_arith rfl rfl rfl (Go.IntWalk.i64_in _ (by omega))) ?_
        refine wl (ro_move rfl) ?_
        refine wl_nil (x_then ?_)
        refine ⟨gs.length - (j + 1), by omega, j + 1, V8, rfl, by omega, ?_, F07.trans F8, kp _ ⟨rfl, by rw [hgaa]; rfl, rfl, rfl, trivial⟩⟩
        rw [hps]
        simpa using hO8
      · try simp only [decide_eq_true_eq, decide_eq_false_iff_not, Bool.not_eq_true', Bool.not_eq_false', Bool.not_eq_eq_eq_not, Bool.not_true, Bool.not_false, beq_iff_eq, bne_iff_ne, ne_eq, beq_eq_false_iff_ne, bne_eq_false_iff_eq, gt_iff_lt, ge_iff_le, Int.not_lt, Int.not_le] at hc43
        have hj0 : j = 0 := by have : ¬ 0 < j := by { simpa using hc43 }; omega
        rw [if_pos hj0] at hps hps2
        obtain ⟨V7, hV7⟩ : ∃ V7, V7 = Value.slice a5 (i0.text ++ sep ++ partG (gs.map (·.2)) j).length c5 := ⟨_, rfl⟩
        have hO7 : Out w.heap.size w5 V7 (i0.text ++ sep ++ partG (gs.map (·.2)) j ++ []) := by rw [hV7, List.append_nil]; exact hO5
        have F07 := F05
        rw [← hV7]
        refine c_skip (x_then (hK14 _ _ ?_))
        clear hK14 K14
        have h27 := h2.fram F07 (fun b hb hx => absurd hx (by have := hlt b hb; omega)) (fun k hk hb h => h.fram F07 hb)
        have hsz7 := F07.size
        refine c_reg ?_ -- region 12 term.go:143
        refine wl (ro_move rfl) ?_
        refine wl (ro_move rfl) ?_
        refine wl_call rfl en_109 (text109 41 w.heap.size w5 V7 _ k.1 k.2 (h27.kids k (by simp [hkm])) (hkB k (by simp [hkm])) (by omega) hO7 (by simp only [List.length_append, List.length_cons, List.length_nil] at hps2 ⊢; omega)) ?_
        rintro V8 w8 ⟨hO8, F8⟩
        refine wl (ro_assign rfl) ?_
        refine wl_nil (x_blk (x_then (hK12 _ _ ?_)))
        clear hK12 K12
        refine c_reg ?_ -- region 13 term.go:139
        refine wl (ro_arith rfl rfl rfl (Go.IntWalk.i64_in _ (by omega))) ?_
        refine wl (ro_move rfl) ?_
        refine wl_nil (x_then ?_)
        refine ⟨gs.length - (j + 1), by omega, j + 1, V8, rfl, by omega, ?_, F07.trans F8, kp _ ⟨rfl, by rw [hgaa]; rfl, rfl, rfl, trivial⟩⟩
        rw [hps]
        simpa using hO8
    · try simp only [decide_eq_true_eq, decide_eq_false_iff_not, Bool.not_eq_true', Bool.not_eq_false', Bool.not_eq_eq_eq_not, Bool.not_true, Bool.not_false, beq_iff_eq, bne_iff_ne, ne_eq, beq_eq_false_iff_ne, bne_eq_false_iff_eq, gt_iff_lt, ge_iff_le, Int.not_lt, Int.not_le] at hc38
      obtain rfl : j = gs.length := by omega
      have hfin : i0.text ++ sep ++ partG (gs.map (·.2)) gs.length = s := by
        rw [hjl, htx, hsep]
        by_cases hg : gs = []
        · subst hg; simp
        · simp [hg]
      rw [hfin] at hO5 ⊢
      obtain ⟨g9, cap9, l9, hV9, hBl9, hc91, hc92, hl91, hl92⟩ := hO5.own.pos hs0
      cases hV9
      refine c_exit (x_thenX (x_thenX (x_blkX (x_then (hK8 _ _ ?_)))))
      clear hK11 K11 hK8 K8
      refine forget [(3, _)] ⟨rfl, trivial⟩ (fun e => ?_)
      refine c_seq (fun K16 hK16 => ?_)
      refine c_reg ?_ -- region 14 term.go:145
      refine wl (ro_move rfl) ?_
      refine wl (ro_b2s (bs := s) rfl se_66 in_5 st_9 hBl9 (by rw [List.drop_zero]; simpa using hl92) rfl) ?_
      refine wl (ro_assign rfl) ?_
      refine wl_nil (x_then (hK16 _ _ ?_))
      clear hK16 K16
      refine c_ret ?_
      refine bp_ret Tryz.results69 rfl ?_
      exact ⟨rfl, F05.mono (fun k hk hx => absurd hx (by omega))⟩
  · try simp only [decide_eq_true_eq, decide_eq_false_iff_not, Bool.not_eq_true', Bool.not_eq_false', Bool.not_eq_eq_eq_not, Bool.not_true, Bool.not_false, beq_iff_eq, bne_iff_ne, ne_eq, beq_eq_false_iff_ne, bne_eq_false_iff_eq, gt_iff_lt, ge_iff_le, Int.not_lt, Int.not_le] at hc31
    have hg0 : gs = [] := by have : ¬ 0 < gs.length := by { simpa using hc31 }; exact List.eq_nil_of_length_eq_zero (by omega)
    have hse : sep = [] := by rw [hsep, if_pos hg0]
    have hO4 : Out w.heap.size w2 (.slice a2 i0.text.length c2) (i0.text ++ sep) := by rw [hse, List.append_nil]; exact hO2
    have F04 := F02
    refine c_skip (x_then (hK4 _ _ ?_))
    clear hK4 K4
    refine c_seq (fun K17 hK17 => ?_)
    refine c_seq (fun K18 hK18 => ?_)
    refine c_reg ?_ -- region 7 term.go:139
    refine wl (ro_move rfl) ?_
    refine wl (ro_lenL rfl se_190) ?_
    refine wl (ro_move rfl) ?_
    refine wl_nil (x_then (hK18 _ _ ?_))
    clear hK18 K18
    refine c_block ?_
    -- loop@r8: live slots [3, 35, 36, 37]
    refine c_loopG (fun m a' w' => ∃ j V', m = gs.length - j ∧ j ≤ gs.length ∧ Out w.heap.size w' V' (i0.text ++ sep ++ partG (gs.map (·.2)) j) ∧ Fram (fun b => w.heap.size ≤ b) w w' ∧ ∃ e, a' = Fr 53 (upds e [(3, V'), (35, .slice (some ga) gs.length (cap - 1)), (36, i64c gs.length), (37, i64c j)]) []) gs.length ⟨0, _, rfl, by omega, by simpa [partG] using hO4, F04, kp _ ⟨rfl, rfl, rfl, rfl, trivial⟩⟩ ?_
    clear hO4 F04
    rintro m a' w5 ⟨j, V5, rfl, hj, hO5, F05, e, rfl⟩
    have h25 := h2.fram F05 (fun b hb hx => absurd hx (by have := hlt b hb; omega)) (fun k hk hb h => h.fram F05 hb)
    have hBl5 := hBl0.fram F05 (fun hx => absurd hx (by have := hBl0.lt; omega))
    have hsz5 := F05.size
    have hpl := partG_len (gs.map (·.2)) j (by simp; omega)
    simp only [List.length_map] at hpl
    obtain ⟨a5, c5, rfl⟩ := hO5.own.form
    refine c_seq (fun K19 hK19 => ?_)
    refine c_reg ?_ -- region 8 term.go:139
    refine wl (ro_cmp rfl rfl rfl) ?_
    refine wl_nil (x_then (hK19 _ _ ?_))
    clear hK19 K19
    refine forget [(3, _), (35, _), (36, _), (37, _), (38, _)] ⟨rfl, rfl, rfl, rfl, rfl, trivial⟩ (fun e => ?_)
    refine c_seq (fun K20 hK20 => ?_)
    refine wc_cond rfl (fun hc38 => ?_) (fun hc38 => ?_)
    · try simp only [decide_eq_true_eq, decide_eq_false_iff_not, Bool.not_eq_true', Bool.not_eq_false', Bool.not_eq_eq_eq_not, Bool.not_true, Bool.not_false, beq_iff_eq, bne_iff_ne, ne_eq, beq_eq_false_iff_ne, bne_eq_false_iff_eq, gt_iff_lt, ge_iff_le, Int.not_lt, Int.not_le] at hc38
      have hjl' : j < gs.length := by omega
      obtain ⟨k, hk⟩ : ∃ k, gs[j]? = some k := ⟨_, List.getElem?_eq_getElem hjl'⟩
      have hkm := List.mem_of_getElem? hk
      have hcap : cap ≠ 1 := by omega
      have hgaa : ga = ⟨g, 0 + 1 * 1, none⟩ := by rw [hga, if_neg hcap]
      have hcell := own_cell (i := j + 1) hl2 (v := k.1) (by simp [hk])
      have hps := partG_step (ks := gs.map (·.2)) (j := j) (i := k.2) (by simp [hk])
      have hpl2 := partG_len (gs.map (·.2)) (j + 1) (by simp; omega)
      have hps2 := congrArg List.length hps
      simp only [List.length_append, List.length_map] at hpl2 hps2
      rw [hgaa]
      refine c_skip (x_then (hK20 _ _ ?_))
      clear hK20 K20
      refine forget [(3, _), (35, _), (36, _), (37, _)] ⟨rfl, rfl, rfl, rfl, trivial⟩ (fun e => ?_)
      refine c_seq (fun K21 hK21 => ?_)
      refine c_block ?_
      refine c_seq (fun K22 hK22 => ?_)
      refine c_reg ?_ -- region 9 term.go:139
      refine wl (ro_move rfl) ?_
      refine wl (ro_indexAddr (et := 195) (k := 1) rfl rfl se_190 rfl (hjl')) ?_
      refine wl (ro_loadB rfl sc_195 (hBl5) ((by rw [show 0 + 1 * 1 + j * 1 = j + 1 by omega]; exact hcell))) ?_
      refine wl (ro_assign rfl) ?_
      refine wl (ro_assign rfl) ?_
      refine wl_nil (x_then (hK22 _ _ ?_))
      clear hK22 K22
      refine c_seq (fun K23 hK23 => ?_)
      refine c_seq (fun K24 hK24 => ?_)
      refine c_reg ?_ -- region 10 term.go:140
      refine wl (ro_move rfl) ?_
      refine wl (ro_cmp (r := decide (0 < j)) rfl rfl (congrArg some (by simp))) ?_
      refine wl_nil (x_then (hK24 _ _ ?_))
      clear hK24 K24
      refine wc_cond rfl (fun hc43 => ?_) (fun hc43 => ?_)
      · try simp only [decide_eq_true_eq, decide_eq_false_iff_not, Bool.not_eq_true', Bool.not_eq_false', Bool.not_eq_eq_eq_not, Bool.not_true, Bool.not_false, beq_iff_eq, bne_iff_ne, ne_eq, beq_eq_false_iff_ne, bne_eq_false_iff_eq, gt_iff_lt, ge_iff_le, Int.not_lt, Int.not_le] at hc43
        have hj0 : j ≠ 0 := by have : 0 < j := by { simpa using hc43 }; omega
        rw [if_neg hj0] at hps hps2
        refine c_reg ?_ -- region 11 term.go:141
        refine wl (ro_move rfl) ?_
        refine wle (eo_bs1 rfl rfl se_66 zx_5 rfl rfl rfl) ?_
        have hN := Blk.new w5 [u8c 44] 5
        have FD := Fram.alloc none' w5 (.cells [u8c 44].toArray 5)
        have hO6 := hO5.none FD
        refine wl_app (news := [u8c 44]) rfl rfl se_66 zx_5 by_5 rfl hO6.own hN rfl rfl (by simp [u8c, Value.oneCell']) (by simp only [List.length_append]; omega) (by simp only [List.length_append]; omega) ?_
        intro V7 w7 hown hgr hloc
        obtain ⟨hO7, F7⟩ := hO6.grown (w0 := w) (xs := [44]) (Nat.le_refl _) (by have := FD.size; omega) hgr hloc hown (by simp; omega)
        have F07 : Fram (fun b => w.heap.size ≤ b) w w7 := (F05.trans (FD.mono (fun _ _ h => h.elim))).trans F7
        refine wl (ro_assign rfl) ?_
        refine wl_nil (x_then (hK23 _ _ ?_))
        clear hK23 K23
        have h27 := h2.fram F07 (fun b hb hx => absurd hx (by have := hlt b hb; omega)) (fun k hk hb h => h.fram F07 hb)
        have hsz7 := F07.size
        refine c_reg ?_ -- region 12 term.go:143
        refine wl (ro_move rfl) ?_
        refine wl (ro_move rfl) ?_
        refine wl_call rfl en_109 (text109 41 w.heap.size w7 V7 _ k.1 k.2 (h27.kids k (by simp [hkm])) (hkB k (by simp [hkm])) (by omega) hO7 (by simp only [List.length_append, List.length_cons, List.length_nil] at hps2 ⊢; omega)) ?_
        rintro V8 w8 ⟨hO8, F8⟩
        refine wl (ro_assign rfl) ?_
        refine wl_nil (x_blk (x_then (hK21 _ _ ?_)))
        clear hK21 K21
        refine c_reg ?_ -- region 13 term.go:139
        refine wl (ro_arith rfl rfl rfl (Go.IntWalk.i64_in _ (by omega))) ?_
        refine wl (ro_move rfl) ?_
        refine wl_nil (x_then ?_)
        refine ⟨gs.length - (j + 1), by omega, j + 1, V8, rfl, by omega, ?_, F07.trans F8, kp _ ⟨rfl, by rw [hgaa]; rfl, rfl, rfl, trivial⟩⟩
        rw [hps]
        simpa using hO8
      · try simp only [decide_eq_true_eq, decide_eq_false_iff_not, Bool.not_eq_true', Bool.not_eq_false', Bool.not_eq_eq_eq_not, Bool.not_true, Bool.not_false, beq_iff_eq, bne_iff_ne, ne_eq, beq_eq_false_iff_ne, bne_eq_false_iff_eq, gt_iff_lt, ge_iff_le, Int.not_lt, Int.not_le] at hc43
        have hj0 : j = 0 := by have : ¬ 0 < j := by { simpa using hc43 }; omega
        rw [if_pos hj0] at hps hps2
        obtain ⟨V7, hV7⟩ : ∃ V7, V7 = Value.slice a5 (i0.text ++ sep ++ partG (gs.map (·.2)) j).length c5 := ⟨_, rfl⟩
        have hO7 : Out w.heap.size w5 V7 (i0.text ++ sep ++ partG (gs.map (·.2)) j ++ []) := by rw [hV7, List.append_nil]; exact hO5
        have F07 := F05
        rw [← hV7]
        refine c_skip (x_then (hK23 _ _ ?_))
        clear hK23 K23
        have h27 := h2.fram F07 (fun b hb hx => absurd hx (by have := hlt b hb; omega)) (fun k hk hb h => h.fram F07 hb)
        have hsz7 := F07.size
        refine c_reg ?_ -- region 12 term.go:143
        refine wl (ro_move rfl) ?_
        refine wl (ro_move rfl) ?_
        refine wl_call rfl en_109 (text109 41 w.heap.size w5 V7 _ k.1 k.2 (h27.kids k (by simp [hkm])) (hkB k (by simp [hkm])) (by omega) hO7 (by simp only [List.length_append, List.length_cons, List.length_nil] at hps2 ⊢; omega)) ?_
        rintro V8 w8 ⟨hO8, F8⟩
        refine wl (ro_assign rfl) ?_
        refine wl_nil (x_blk (x_then (hK21 _ _ ?_)))
        clear hK21 K21
        refine c_reg ?_ -- region 13 term.go:139
        refine wl (ro_arith rfl rfl rfl (Go.IntWalk.i64_in _ (by omega))) ?_
        refine wl (ro_move rfl) ?_
        refine wl_nil (x_then ?_)
        refine ⟨gs.length - (j + 1), by omega, j + 1, V8, rfl, by omega, ?_, F07.trans F8, kp _ ⟨rfl, by rw [hgaa]; rfl, rfl, rfl, trivial⟩⟩
        rw [hps]
        simpa using hO8
    · try simp only [decide_eq_true_eq, decide_eq_false_iff_not, Bool.not_eq_true', Bool.not_eq_false', Bool.not_eq_eq_eq_not, Bool.not_true, Bool.not_false, beq_iff_eq, bne_iff_ne, ne_eq, beq_eq_false_iff_ne, bne_eq_false_iff_eq, gt_iff_lt, ge_iff_le, Int.not_lt, Int.not_le] at hc38
      obtain rfl : j = gs.length := by omega
      have hfin : i0.text ++ sep ++ partG (gs.map (·.2)) gs.length = s := by
        rw [hjl, htx, hsep]
        by_cases hg : gs = []
        · subst hg; simp
        · simp [hg]
      rw [hfin] at hO5 ⊢
      obtain ⟨g9, cap9, l9, hV9, hBl9, hc91, hc92, hl91, hl92⟩ := hO5.own.pos hs0
      cases hV9
      refine c_exit (x_thenX (x_thenX (x_blkX (x_then (hK17 _ _ ?_)))))
      clear hK20 K20 hK17 K17
      refine forget [(3, _)] ⟨rfl, trivial⟩ (fun e => ?_)
      refine c_seq (fun K25 hK25 => ?_)
      refine c_reg ?_ -- region 14 term.go:145
      refine wl (ro_move rfl) ?_
      refine wl (ro_b2s (bs := s) rfl se_66 in_5 st_9 hBl9 (by rw [List.drop_zero]; simpa using hl92) rfl) ?_
      refine wl (ro_assign rfl) ?_
      refine wl_nil (x_then (hK25 _ _ ?_))
      clear hK25 K25
      refine c_ret ?_
      refine bp_ret Tryz.results69 rfl ?_
      exact ⟨rfl, F05.mono (fun k hk hx => absurd hx (by omega))⟩

end Go.Proofs.Qxb6500569aGreat
