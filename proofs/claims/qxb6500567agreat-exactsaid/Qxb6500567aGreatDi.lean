import Derived.Test.Qxb6500567aGreatDh
/- The real simplifier: Core, New. -/
namespace Go.Proofs.Qxb6500567aGreat
set_option linter.unusedVariables false
set_option linter.unusedSimpArgs false

/-- What Core answers: the tree stands for its core form. -/
def coreT (p : List UInt8) : Except Er (RE × Nat) := match parseT p with
  | .error e => .error e
  | .ok (r, g) => if 31 < nds (child r) then .error (8, 0) else .ok (r, g)

abbrev erV (e : Er) : List Value := [.slice none 0 0, icv (-1), icv 0, i64c e.1, i64c e.2]

/-- A core tree as a value. -/
def CV (w0 w : World) (v : Value) (X : Except Er (RE × Nat)) : Prop := match X with
  | .error e => v = .agg (erV e).toArray
  | .ok (r, g) => ∃ (nb : Nat) (c : Nat → Value), v = .agg [.slice (some ⟨nb, 0, none⟩) (nds (child r)) (nds (child r)), icv ((nds (child r) : Int) - 1), i64c g, icv 0, icv 0].toArray ∧ w0.heap.size ≤ nb ∧ FB w.heap nb (nds (child r) * 11) c 89 ∧ AR (subs (child r)) c 0

theorem parseT_ok {p : List UInt8} {r : RE} {g : Nat} (h : parseT p = .ok (r, g)) : WF r ∧ nds r ≤ 24 := by
  unfold parseT at h
  split at h
  · cases h
  · exact parse_ok.1 r g h
theorem parseT_er {p : List UInt8} {e : Er} (h : parseT p = .error e) : e.1 ≠ 0 := by
  unfold parseT at h
  split at h
  · cases h; simp
  · exact parse_ok.2 e h

theorem refused69 {w : World} {e : Er} : Ret Tryz.prog 69 [i64c e.1, i64c e.2] w (fun v w' => v = .agg (erV e).toArray ∧ Fram none' w w') := by
  have hF : Fram none' w w := Fram.refl _ _
  refine ret_of Tryz.func69 rfl Tryz.ntmps69 rfl ?_
  refine c_seq (fun K1 hK1 => ?_)
  refine c_reg ?_ -- region 0 simp.go:56
  refine wl_new (ze_151) (fun mb w1 hbmb hM F1 => ?_)
  have hbsmb := Nat.le_trans hF.size hbmb
  replace hF := hF.thenDrew.thenN F1
  refine wl_nil (x_then (hK1 _ _ ?_))
  clear hK1 K1
  refine forget [(0, _), (1, _), (4, _)] ⟨rfl, rfl, rfl, trivial⟩ (fun e => ?_)
  refine c_seq (fun K2 hK2 => ?_)
  refine c_reg ?_ -- region 1 simp.go:56
  refine wl (ro_move rfl) ?_
  refine wl (ro_move rfl) ?_
  refine wl (ro_build rfl bld_151_1_3_4) ?_
  refine wl_puta rfl rfl (by simp [Value.oneCell', i64c, u64c, u8c, ptr]) sz_151 (rfl) hM ((by simp)) (rfl) (fun w2 hM F2 => ?_)
  replace hF := hF.thenDrew.thenO F2 (by first | exact .inr (by omega) | exact .inl rfl | exact .inl (by assumption))
  refine wl_nil (x_then (hK2 _ _ ?_))
  clear hK2 K2
  refine c_ret ?_
  refine bq_ret (res1 Tryz.results69 (rv_c rfl ag_151 (hM) rfl)) ?_
  exact ⟨rfl, hF⟩

/-- All that the simplifier owns. -/
def sset (B : SB) : Nat → Prop := fun k => k = B.sb ∨ k = B.ob ∨ k = B.kb ∨ k = B.rb ∨ k = B.hb ∨ k = B.zb ∨ k = B.xb

/-- Seven blocks, in the order in which they were made. -/
structure D7 (B : SB) : Prop where
  xs : B.xb < B.sb
  sh : B.sb < B.hb
  hz : B.hb < B.zb
  zo : B.zb < B.ob
  ok : B.ob < B.kb
  kr : B.kb < B.rb

theorem D7.d4 {B : SB} (D : D7 B) : D4 B := by
  obtain ⟨d1, d2, d3, d4, d5, d6⟩ := D
  exact ⟨by omega, by omega, by omega, by omega, by omega, by omega⟩

/-- The simplifier between calls. -/
structure SMr (H : Array Obj) (B : SB) (no nw nr : Nat) (fo fw fr fh fz fx : Nat → Value) : Prop where
  s : Blk H B.sb (B.cells no nw nr) 101
  o : FB H B.ob 341 fo 89
  k : FB H B.kb 196 fw 202
  r : FB H B.rb 25 fr 3
  h : FB H B.hb 24 fh 3
  z : FB H B.zb 24 fz 3
  x : FB H B.xb 325 fx 96
def SMV (H : Array Obj) (B : SB) : Prop := ∃ no nw nr fo fw fr fh fz fx, SMr H B no nw nr fo fw fr fh fz fx

theorem pl_cells {r : RE} {fo : Nat → Value} (hov : ∀ k x, (pl r 0)[k]? = some x → cel 11 (fun j => fo (0 + 11 * k + j)) = ndP x) (j : Nat) (hj : j < nds r * 11) : (fo (0 + j)).oneCell' = true := by
  have hcl : fo (0 + j) ∈ ndP ((pl r 0)[j / 11]'(by rw [pl_len]; omega)) := by
    rw [← hov (j / 11) _ (List.getElem?_eq_getElem _)]
    simp only [cel, List.mem_map, List.mem_range]
    exact ⟨j % 11, by omega, by congr 1; omega⟩
  exact ndP_cells _ _ hcl

set_option maxHeartbeats 4000000 in
theorem Core57 {w : World} {B : SB} {p : List UInt8} (D : D7 B) (V : SMV w.heap B) (hpm : p.length ≤ 9223372036854775807) :
    Ret Tryz.prog 57 [ptr B.sb, S p] w (fun v w' => CV w w' v (coreT p) ∧ SMV w'.heap B ∧ Fram (sset B) w w') := by
  have hF : Fram (sset B) w w := Fram.refl _ _
  have D4' : D4 B := D.d4
  obtain ⟨d1, d2, d3, d4, d5, d6⟩ := D
  obtain ⟨no, nw, nr, fo, fw, fr, fh, fz, fx, hB, hO, hK, hR, hH, hZ, hP⟩ := V
  have b1 := hB.lt
  have b2 := hO.lt
  have b3 := hK.lt
  have b4 := hR.lt
  have b5 := hH.lt
  have b6 := hZ.lt
  have b7 := hP.lt
  refine ret_of Tryz.func57 rfl Tryz.ntmps57 rfl ?_
  refine c_seq (fun K1 hK1 => ?_)
  refine c_reg ?_ -- region 0 simp.go:59
  refine wl_new (ze_151) (fun mb w1 hbmb hM F1 => ?_)
  have hbsmb := Nat.le_trans hF.size hbmb
  have hneB.sbmb : B.sb < mb := Nat.lt_of_lt_of_le hB.lt hbmb
  have hneB.obmb : B.ob < mb := Nat.lt_of_lt_of_le hO.lt hbmb
  have hneB.kbmb : B.kb < mb := Nat.lt_of_lt_of_le hK.lt hbmb
  have hneB.rbmb : B.rb < mb := Nat.lt_of_lt_of_le hR.lt hbmb
  have hneB.hbmb : B.hb < mb := Nat.lt_of_lt_of_le hH.lt hbmb
  have hneB.zbmb : B.zb < mb := Nat.lt_of_lt_of_le hZ.lt hbmb
  have hneB.xbmb : B.xb < mb := Nat.lt_of_lt_of_le hP.lt hbmb
  replace hF := hF.thenDrew.thenN F1
  replace hB := F1.blkN hB
  replace hO := F1.blkN hO
  replace hK := F1.blkN hK
  replace hR := F1.blkN hR
  replace hH := F1.blkN hH
  replace hZ := F1.blkN hZ
  replace hP := F1.blkN hP
  refine wl_nil (x_then (hK1 _ _ ?_))
  clear hK1 K1
  refine c_seq (fun K2 hK2 => ?_)
  refine c_seq (fun K3 hK3 => ?_)
  refine c_reg ?_ -- region 1 simp.go:60
  refine wl (ro_move rfl) ?_
  refine wl (ro_lenS rfl st_9) ?_
  refine wl (ro_cmp rfl rfl rfl) ?_
  refine wl_nil (x_then (hK3 _ _ ?_))
  clear hK3 K3
  refine wc_cond rfl (fun hc9 => ?_) (fun hc9 => ?_)
  · try simp only [decide_eq_true_eq, decide_eq_false_iff_not, Bool.not_eq_true', Bool.not_eq_false', Bool.not_eq_eq_eq_not, Bool.not_true, Bool.not_false, beq_iff_eq, bne_iff_ne, ne_eq, beq_eq_false_iff_ne, bne_eq_false_iff_eq, gt_iff_lt, ge_iff_le, Int.not_lt, Int.not_le] at hc9
    have hl : 128 < p.length := by omega
    have hPT : coreT p = .error (12, 0) := by unfold coreT parseT; rw [if_pos hl]
    refine c_seq (fun K4 hK4 => ?_)
    refine c_reg ?_ -- region 2 simp.go:61
    refine wl_call rfl en_69 (refused69 (e := (12, 0))) ?_
    rintro _ w2 ⟨rfl, F2⟩
    replace hF := hF.transG F2 (by intro k hk h; simp only [one, two, none', bset, sset] at h ⊢ <;> omega)
    replace hB := F2.blkF hB (by intro h; simp only [one, two, none', bset, sset] at h <;> omega)
    replace hO := F2.blkF hO (by intro h; simp only [one, two, none', bset, sset] at h <;> omega)
    replace hK := F2.blkF hK (by intro h; simp only [one, two, none', bset, sset] at h <;> omega)
    replace hR := F2.blkF hR (by intro h; simp only [one, two, none', bset, sset] at h <;> omega)
    replace hH := F2.blkF hH (by intro h; simp only [one, two, none', bset, sset] at h <;> omega)
    replace hZ := F2.blkF hZ (by intro h; simp only [one, two, none', bset, sset] at h <;> omega)
    replace hP := F2.blkF hP (by intro h; simp only [one, two, none', bset, sset] at h <;> omega)
    replace hM := F2.blkF hM (by intro h; simp only [one, two, none', bset, sset] at h <;> omega)
    refine wl_puta rfl rfl (by simp [Value.oneCell', i64c, u64c, u8c, ptr]) sz_151 (rfl) hM ((by simp)) (rfl) (fun w2 hM F2 => ?_)
    replace hF := hF.thenDrew.thenO F2 (by first | exact .inr (by omega) | exact .inl rfl | exact .inl (by assumption))
    replace hB := F2.blkO hB (by omega)
    replace hO := F2.blkO hO (by omega)
    replace hK := F2.blkO hK (by omega)
    replace hR := F2.blkO hR (by omega)
    replace hH := F2.blkO hH (by omega)
    replace hZ := F2.blkO hZ (by omega)
    replace hP := F2.blkO hP (by omega)
    refine wl_nil (x_then (hK4 _ _ ?_))
    clear hK4 K4
    refine c_ret (x_thenR ?_)
    refine bq_ret (res1 Tryz.results57 (rv_c rfl ag_151 (hM) rfl)) ?_
    rw [hPT]; exact ⟨rfl, ⟨_, _, _, _, _, _, _, _, _, hB, hO, hK, hR, hH, hZ, hP⟩, hF⟩
  · try simp only [decide_eq_true_eq, decide_eq_false_iff_not, Bool.not_eq_true', Bool.not_eq_false', Bool.not_eq_eq_eq_not, Bool.not_true, Bool.not_false, beq_iff_eq, bne_iff_ne, ne_eq, beq_eq_false_iff_ne, bne_eq_false_iff_eq, gt_iff_lt, ge_iff_le, Int.not_lt, Int.not_le] at hc9
    refine c_skip (x_then (hK2 _ _ ?_))
    clear hK2 K2
    refine forget [(0, _), (1, _), (4, _)] ⟨rfl, rfl, rfl, trivial⟩ (fun e => ?_)
    refine c_seq (fun K5 hK5 => ?_)
    rcases hPT : parseT p with e3 | ⟨r3, g3⟩
    · skip
      have he3 := parseT_er hPT
      have hCT : coreT p = .error e3 := by unfold coreT; rw [hPT]
      refine c_reg ?_ -- region 3 simp.go:63
      refine wl (ro_move rfl) ?_
      refine wl (ro_nilCheck rfl) ?_
      refine wl (ro_fieldAddr (k := 0) rfl fo_101_0) ?_
      refine wl (ro_loadB rfl sc_42 (hB) (rfl)) ?_
      refine wl (ro_move rfl) ?_
      refine wl_call rfl en_70 (Parse70 hP hpm) ?_
      rintro v w3 ⟨hTV, ⟨f', hP⟩, F3⟩
      replace hF := hF.transG F3 (by intro k hk h; simp only [one, two, none', bset, sset] at h ⊢ <;> omega)
      replace hB := F3.blkF hB (by intro h; simp only [one, two, none', bset, sset] at h <;> omega)
      replace hO := F3.blkF hO (by intro h; simp only [one, two, none', bset, sset] at h <;> omega)
      replace hK := F3.blkF hK (by intro h; simp only [one, two, none', bset, sset] at h <;> omega)
      replace hR := F3.blkF hR (by intro h; simp only [one, two, none', bset, sset] at h <;> omega)
      replace hH := F3.blkF hH (by intro h; simp only [one, two, none', bset, sset] at h <;> omega)
      replace hZ := F3.blkF hZ (by intro h; simp only [one, two, none', bset, sset] at h <;> omega)
      replace hM := F3.blkF hM (by intro h; simp only [one, two, none', bset, sset] at h <;> omega)
      rw [hPT] at hTV
      obtain rfl := hTV
      refine wl_new (ze_151) (fun tb w3 hbtb hX F3 => ?_)
      have hbstb := Nat.le_trans hF.size hbtb
      have hneB.sbtb : B.sb < tb := Nat.lt_of_lt_of_le hB.lt hbtb
      have hneB.obtb : B.ob < tb := Nat.lt_of_lt_of_le hO.lt hbtb
      have hneB.kbtb : B.kb < tb := Nat.lt_of_lt_of_le hK.lt hbtb
      have hneB.rbtb : B.rb < tb := Nat.lt_of_lt_of_le hR.lt hbtb
      have hneB.hbtb : B.hb < tb := Nat.lt_of_lt_of_le hH.lt hbtb
      have hneB.zbtb : B.zb < tb := Nat.lt_of_lt_of_le hZ.lt hbtb
      have hneB.xbtb : B.xb < tb := Nat.lt_of_lt_of_le hP.lt hbtb
      have hnembtb : mb < tb := Nat.lt_of_lt_of_le hM.lt hbtb
      replace hF := hF.thenDrew.thenN F3
      replace hB := F3.blkN hB
      replace hO := F3.blkN hO
      replace hK := F3.blkN hK
      replace hR := F3.blkN hR
      replace hH := F3.blkN hH
      replace hZ := F3.blkN hZ
      replace hP := F3.blkN hP
      replace hM := F3.blkN hM
      refine wl_puta rfl rfl (by simp [Value.oneCell', i64c, u64c, u8c, ptr]) sz_151 (rfl) hX ((by simp)) (rfl) (fun w4 hX F4 => ?_)
      replace hF := hF.thenDrew.thenO F4 (by first | exact .inr (by omega) | exact .inl rfl | exact .inl (by assumption))
      replace hB := F4.blkO hB (by omega)
      replace hO := F4.blkO hO (by omega)
      replace hK := F4.blkO hK (by omega)
      replace hR := F4.blkO hR (by omega)
      replace hH := F4.blkO hH (by omega)
      replace hZ := F4.blkO hZ (by omega)
      replace hP := F4.blkO hP (by omega)
      replace hM := F4.blkO hM (by omega)
      refine wl_nil (x_then (hK5 _ _ ?_))
      clear hK5 K5
      refine c_seq (fun K6 hK6 => ?_)
      refine c_seq (fun K7 hK7 => ?_)
      refine c_reg ?_ -- region 4 simp.go:64
      refine wl (ro_fieldAddr (k := 3) rfl fo_151_3) ?_
      refine wl (ro_loadB rfl sc_53 (hX) (rfl)) ?_
      refine wl (ro_cmp (r := true) rfl rfl (congrArg some ((bnec e3.1 0).trans (decide_eq_true he3)))) ?_
      refine wl_nil (x_then (hK7 _ _ ?_))
      clear hK7 K7
      refine wc_condT rfl ?_
      refine c_seq (fun K8 hK8 => ?_)
      refine c_reg ?_ -- region 5 simp.go:65
      refine wl (ro_fieldAddr (k := 3) rfl fo_151_3) ?_
      refine wl (ro_loadB rfl sc_53 (hX) (rfl)) ?_
      refine wl (ro_fieldAddr (k := 4) rfl fo_151_4) ?_
      refine wl (ro_loadB rfl sc_3 (hX) (rfl)) ?_
      refine wl_call rfl en_69 (refused69 (e := e3)) ?_
      rintro _ w4 ⟨rfl, F4⟩
      replace hF := hF.transG F4 (by intro k hk h; simp only [one, two, none', bset, sset] at h ⊢ <;> omega)
      replace hB := F4.blkF hB (by intro h; simp only [one, two, none', bset, sset] at h <;> omega)
      replace hO := F4.blkF hO (by intro h; simp only [one, two, none', bset, sset] at h <;> omega)
      replace hK := F4.blkF hK (by intro h; simp only [one, two, none', bset, sset] at h <;> omega)
      replace hR := F4.blkF hR (by intro h; simp only [one, two, none', bset, sset] at h <;> omega)
      replace hH := F4.blkF hH (by intro h; simp only [one, two, none', bset, sset] at h <;> omega)
      replace hZ := F4.blkF hZ (by intro h; simp only [one, two, none', bset, sset] at h <;> omega)
      replace hP := F4.blkF hP (by intro h; simp only [one, two, none', bset, sset] at h <;> omega)
      replace hM := F4.blkF hM (by intro h; simp only [one, two, none', bset, sset] at h <;> omega)
      replace hX := F4.blkF hX (by intro h; simp only [one, two, none', bset, sset] at h <;> omega)
      refine wl_puta rfl rfl (by simp [Value.oneCell', i64c, u64c, u8c, ptr]) sz_151 (rfl) hM ((by simp)) (rfl) (fun w5 hM F5 => ?_)
      replace hF := hF.thenDrew.thenO F5 (by first | exact .inr (by omega) | exact .inl rfl | exact .inl (by assumption))
      replace hB := F5.blkO hB (by omega)
      replace hO := F5.blkO hO (by omega)
      replace hK := F5.blkO hK (by omega)
      replace hR := F5.blkO hR (by omega)
      replace hH := F5.blkO hH (by omega)
      replace hZ := F5.blkO hZ (by omega)
      replace hP := F5.blkO hP (by omega)
      replace hX := F5.blkO hX (by omega)
      refine wl_nil (x_then (hK8 _ _ ?_))
      clear hK8 K8
      refine c_ret (x_thenR ?_)
      refine bq_ret (res1 Tryz.results57 (rv_c rfl ag_151 (hM) rfl)) ?_
      rw [hCT]; exact ⟨rfl, ⟨_, _, _, _, _, _, _, _, _, hB, hO, hK, hR, hH, hZ, hP⟩, hF⟩
    · skip
      have hmlt := hM.lt
      obtain ⟨hw3, hn3⟩ := parseT_ok hPT
      refine c_reg ?_ -- region 3 simp.go:63
      refine wl (ro_move rfl) ?_
      refine wl (ro_nilCheck rfl) ?_
      refine wl (ro_fieldAddr (k := 0) rfl fo_101_0) ?_
      refine wl (ro_loadB rfl sc_42 (hB) (rfl)) ?_
      refine wl (ro_move rfl) ?_
      refine wl_call rfl en_70 (Parse70 hP hpm) ?_
      rintro v w3 ⟨hTV, ⟨f', hP⟩, F3⟩
      have hszl := hF.size
      replace hF := hF.transG F3 (by intro k hk h; simp only [one, two, none', bset, sset] at h ⊢ <;> omega)
      replace hB := F3.blkF hB (by intro h; simp only [one, two, none', bset, sset] at h <;> omega)
      replace hO := F3.blkF hO (by intro h; simp only [one, two, none', bset, sset] at h <;> omega)
      replace hK := F3.blkF hK (by intro h; simp only [one, two, none', bset, sset] at h <;> omega)
      replace hR := F3.blkF hR (by intro h; simp only [one, two, none', bset, sset] at h <;> omega)
      replace hH := F3.blkF hH (by intro h; simp only [one, two, none', bset, sset] at h <;> omega)
      replace hZ := F3.blkF hZ (by intro h; simp only [one, two, none', bset, sset] at h <;> omega)
      replace hM := F3.blkF hM (by intro h; simp only [one, two, none', bset, sset] at h <;> omega)
      rw [hPT] at hTV
      obtain ⟨nb, cap, root, T, c, rfl, hnb, hT, hle, h24, hAR, hroot⟩ := hTV
      have hmbnb : mb < nb := Nat.lt_of_lt_of_le hmlt hnb
      have hnbw : w.heap.size ≤ nb := Nat.le_trans hszl hnb
      refine wl_new (ze_151) (fun tb w6 hbtb hX F6 => ?_)
      have hbstb := Nat.le_trans hF.size hbtb
      have hneB.sbtb : B.sb < tb := Nat.lt_of_lt_of_le hB.lt hbtb
      have hneB.obtb : B.ob < tb := Nat.lt_of_lt_of_le hO.lt hbtb
      have hneB.kbtb : B.kb < tb := Nat.lt_of_lt_of_le hK.lt hbtb
      have hneB.rbtb : B.rb < tb := Nat.lt_of_lt_of_le hR.lt hbtb
      have hneB.hbtb : B.hb < tb := Nat.lt_of_lt_of_le hH.lt hbtb
      have hneB.zbtb : B.zb < tb := Nat.lt_of_lt_of_le hZ.lt hbtb
      have hneB.xbtb : B.xb < tb := Nat.lt_of_lt_of_le hP.lt hbtb
      have hnembtb : mb < tb := Nat.lt_of_lt_of_le hM.lt hbtb
      have hnenbtb : nb < tb := Nat.lt_of_lt_of_le hT.lt hbtb
      replace hF := hF.thenDrew.thenN F6
      replace hB := F6.blkN hB
      replace hO := F6.blkN hO
      replace hK := F6.blkN hK
      replace hR := F6.blkN hR
      replace hH := F6.blkN hH
      replace hZ := F6.blkN hZ
      replace hP := F6.blkN hP
      replace hM := F6.blkN hM
      replace hT := F6.blkN hT
      refine wl_puta rfl rfl (by simp [Value.oneCell', i64c, u64c, u8c, ptr]) sz_151 (rfl) hX ((by simp)) (rfl) (fun w7 hX F7 => ?_)
      replace hF := hF.thenDrew.thenO F7 (by first | exact .inr (by omega) | exact .inl rfl | exact .inl (by assumption))
      replace hB := F7.blkO hB (by omega)
      replace hO := F7.blkO hO (by omega)
      replace hK := F7.blkO hK (by omega)
      replace hR := F7.blkO hR (by omega)
      replace hH := F7.blkO hH (by omega)
      replace hZ := F7.blkO hZ (by omega)
      replace hP := F7.blkO hP (by omega)
      replace hM := F7.blkO hM (by omega)
      replace hT := F7.blkO hT (by omega)
      refine wl_nil (x_then (hK5 _ _ ?_))
      clear hK5 K5
      refine c_seq (fun K9 hK9 => ?_)
      refine c_seq (fun K10 hK10 => ?_)
      refine c_reg ?_ -- region 4 simp.go:64
      refine wl (ro_fieldAddr (k := 3) rfl fo_151_3) ?_
      refine wl (ro_loadB rfl sc_53 (hX) (rfl)) ?_
      refine wl (ro_cmp rfl rfl rfl) ?_
      refine wl_nil (x_then (hK10 _ _ ?_))
      clear hK10 K10
      refine wc_condF rfl ?_
      refine c_skip (x_then (hK9 _ _ ?_))
      clear hK9 K9
      refine forget [(0, _), (4, _), (5, _)] ⟨rfl, rfl, rfl, trivial⟩ (fun e => ?_)
      refine c_seq (fun K11 hK11 => ?_)
      refine c_reg ?_ -- region 6 simp.go:67
      refine wl (ro_move rfl) ?_
      refine wl (ro_fieldAddr (k := 0) rfl fo_151_0) ?_
      refine wl (ro_loadB rfl sc_98 (hX) (rfl)) ?_
      refine wl_call rfl en_71 (measure71 ⟨hB, hH, hZ⟩ hT hle h24 hAR (by omega) (by omega) (by omega) (by omega) (by omega)) ?_
      rintro _ w5 ⟨rfl, ⟨fh', fz', ⟨hB, hH, hZ⟩, hMS⟩, F5⟩
      replace hF := hF.transG F5 (by intro k hk h; simp only [one, two, none', bset, sset] at h ⊢ <;> omega)
      replace hO := F5.blkF hO (by intro h; simp only [one, two, none', bset, sset] at h <;> omega)
      replace hK := F5.blkF hK (by intro h; simp only [one, two, none', bset, sset] at h <;> omega)
      replace hR := F5.blkF hR (by intro h; simp only [one, two, none', bset, sset] at h <;> omega)
      replace hP := F5.blkF hP (by intro h; simp only [one, two, none', bset, sset] at h <;> omega)
      replace hM := F5.blkF hM (by intro h; simp only [one, two, none', bset, sset] at h <;> omega)
      replace hT := F5.blkF hT (by intro h; simp only [one, two, none', bset, sset] at h <;> omega)
      replace hX := F5.blkF hX (by intro h; simp only [one, two, none', bset, sset] at h <;> omega)
      obtain ⟨s5, z5, hs5, hz5, -, -, -, hsz5⟩ := hMS root r3 hroot
      obtain ⟨-, rfl⟩ := hsz5 hw3
      have hrl : root < T.length := (List.getElem?_eq_some_iff.1 hroot).1
      refine wl_nil (x_then (hK11 _ _ ?_))
      clear hK11 K11
      refine c_seq (fun K12 hK12 => ?_)
      refine c_seq (fun K13 hK13 => ?_)
      refine c_pi [(0, false), (1, false), (2, false), (3, false), (4, false), (5, false), (6, false), (7, false), (8, false)] (SameH _) mixed (by kernel_rfl) rfl (by kernel_rfl) (po_then (po_then (po_bp))) (sameH_now _ _) ?_ -- region 7 simp.go:68
      refine pi_ro rfl (fun w hS => ro_move rfl) ?_
      refine pi_ro rfl (fun w hS => ro_nilCheck rfl) ?_
      refine pi_ro rfl (fun w hS => ro_fieldAddr (k := 2) rfl fo_101_2) ?_
      refine pi_ro rfl (fun w hS => ro_loadB rfl sc_97 (Blk.of_heap hB hS) (rfl)) ?_
      refine pi_ro rfl (fun w hS => ro_fieldAddr (k := 1) rfl fo_151_1) ?_
      refine pi_ro rfl (fun w hS => ro_loadB rfl sc_3 (Blk.of_heap hX hS) (rfl)) ?_
      refine pi_ro rfl (fun w hS => ro_indexAddr (et := 3) (k := 1) rfl rfl se_97 (rfl) ((by omega : root < 24))) ?_
      refine pi_ro rfl (fun w hS => ro_loadB rfl sc_3 (Blk.of_heap hZ hS) (cel_at (by omega) (by omega) hz5)) ?_
      refine pi_ro rfl (fun w hS => ro_cmp (r := decide (31 < zs r3)) rfl rfl (congrArg some (decide_eq_decide.2 (by show ((zs r3 : Nat) : Int) > 31 ↔ _; omega)))) ?_
      refine pi_nil (x_then (hK13 _ _ ?_))
      clear hK13 K13
      refine wc_cond rfl (fun hc37 => ?_) (fun hc37 => ?_)
      · try simp only [decide_eq_true_eq, decide_eq_false_iff_not, Bool.not_eq_true', Bool.not_eq_false', Bool.not_eq_eq_eq_not, Bool.not_true, Bool.not_false, beq_iff_eq, bne_iff_ne, ne_eq, beq_eq_false_iff_ne, bne_eq_false_iff_eq, gt_iff_lt, ge_iff_le, Int.not_lt, Int.not_le] at hc37
        have hcg : 31 < nds (child r3) := by unfold zs at hc37; omega
        have hCT : coreT p = .error (8, 0) := by unfold coreT; rw [hPT]; simp only; rw [if_pos hcg]
        refine c_seq (fun K14 hK14 => ?_)
        refine c_reg ?_ -- region 8 simp.go:69
        refine wl_call rfl en_69 (refused69 (e := (8, 0))) ?_
        rintro _ w4 ⟨rfl, F4⟩
        replace hF := hF.transG F4 (by intro k hk h; simp only [one, two, none', bset, sset] at h ⊢ <;> omega)
        replace hB := F4.blkF hB (by intro h; simp only [one, two, none', bset, sset] at h <;> omega)
        replace hO := F4.blkF hO (by intro h; simp only [one, two, none', bset, sset] at h <;> omega)
        replace hK := F4.blkF hK (by intro h; simp only [one, two, none', bset, sset] at h <;> omega)
        replace hR := F4.blkF hR (by intro h; simp only [one, two, none', bset, sset] at h <;> omega)
        replace hH := F4.blkF hH (by intro h; simp only [one, two, none', bset, sset] at h <;> omega)
        replace hZ := F4.blkF hZ (by intro h; simp only [one, two, none', bset, sset] at h <;> omega)
        replace hP := F4.blkF hP (by intro h; simp only [one, two, none', bset, sset] at h <;> omega)
        replace hM := F4.blkF hM (by intro h; simp only [one, two, none', bset, sset] at h <;> omega)
        replace hT := F4.blkF hT (by intro h; simp only [one, two, none', bset, sset] at h <;> omega)
        replace hX := F4.blkF hX (by intro h; simp only [one, two, none', bset, sset] at h <;> omega)
        refine wl_puta rfl rfl (by simp [Value.oneCell', i64c, u64c, u8c, ptr]) sz_151 (rfl) hM ((by simp)) (rfl) (fun w8 hM F8 => ?_)
        replace hF := hF.thenDrew.thenO F8 (by first | exact .inr (by omega) | exact .inl rfl | exact .inl (by assumption))
        replace hB := F8.blkO hB (by omega)
        replace hO := F8.blkO hO (by omega)
        replace hK := F8.blkO hK (by omega)
        replace hR := F8.blkO hR (by omega)
        replace hH := F8.blkO hH (by omega)
        replace hZ := F8.blkO hZ (by omega)
        replace hP := F8.blkO hP (by omega)
        replace hT := F8.blkO hT (by omega)
        replace hX := F8.blkO hX (by omega)
        refine wl_nil (x_then (hK14 _ _ ?_))
        clear hK14 K14
        refine c_ret (x_thenR ?_)
        refine bq_ret (res1 Tryz.results57 (rv_c rfl ag_151 (hM) rfl)) ?_
        rw [hCT]
        first
          | exact ⟨rfl, ⟨_, _, _, _, _, _, _, _, _, hB, hO, hK, hR, hH, hZ, hP⟩, hF⟩
          | (refine ⟨⟨qb, _, rfl, by omega, hN, ?_⟩, ⟨_, _, _, _, _, _, _, _, _, hB, hO, hK, hR, hH, hZ, hP⟩, hF⟩
             refine pl_ar (pro_child r3) (fun k x hx => ?_)
             have hk := (List.getElem?_eq_some_iff.1 hx).1
             rw [pl_len] at hk
             rw [← hov k x hx]
             apply cel_congr
             intro j hj
             rw [cpf_in (by omega) (by omega)]
             congr 1; omega)
      · try simp only [decide_eq_true_eq, decide_eq_false_iff_not, Bool.not_eq_true', Bool.not_eq_false', Bool.not_eq_eq_eq_not, Bool.not_true, Bool.not_false, beq_iff_eq, bne_iff_ne, ne_eq, beq_eq_false_iff_ne, bne_eq_false_iff_eq, gt_iff_lt, ge_iff_le, Int.not_lt, Int.not_le] at hc37
        have hcg : nds (child r3) ≤ 31 := by unfold zs at hc37; omega
        have hCT : coreT p = .ok (r3, g3) := by unfold coreT; rw [hPT]; simp only; rw [if_neg (by omega)]
        have hshv : SHV fh' T := fun n r hn hw => by obtain ⟨s, z, h1, h2, -, -, -, h3⟩ := hMS n r hn; rw [h1, (h3 hw).1]
        refine c_skip (x_then (hK12 _ _ ?_))
        clear hK12 K12
        refine forget [(0, _), (4, _), (5, _)] ⟨rfl, rfl, rfl, trivial⟩ (fun e => ?_)
        refine c_seq (fun K15 hK15 => ?_)
        refine c_reg ?_ -- region 9 simp.go:71
        refine wl (ro_move rfl) ?_
        refine wl (ro_fieldAddr (k := 0) rfl fo_151_0) ?_
        refine wl (ro_loadB rfl sc_98 (hX) (rfl)) ?_
        refine wl (ro_fieldAddr (k := 1) rfl fo_151_1) ?_
        refine wl (ro_loadB rfl sc_3 (hX) (rfl)) ?_
        refine wl_call rfl en_72 (build72 D4' hB hO hK hR hH (by intro h; simp only [bset] at h; omega) hshv hT (by intro h; simp only [bset] at h; omega) hle h24 hAR hroot hw3 hn3 hcg) ?_
        rintro _ w6 ⟨rfl, ⟨fo6, fw6, fr6, hB, hO, hK, hR, hov⟩, F6⟩
        replace hF := hF.transG F6 (by intro k hk h; simp only [one, two, none', bset, sset] at h ⊢ <;> omega)
        replace hH := F6.blkF hH (by intro h; simp only [one, two, none', bset, sset] at h <;> omega)
        replace hZ := F6.blkF hZ (by intro h; simp only [one, two, none', bset, sset] at h <;> omega)
        replace hP := F6.blkF hP (by intro h; simp only [one, two, none', bset, sset] at h <;> omega)
        replace hM := F6.blkF hM (by intro h; simp only [one, two, none', bset, sset] at h <;> omega)
        replace hT := F6.blkF hT (by intro h; simp only [one, two, none', bset, sset] at h <;> omega)
        replace hX := F6.blkF hX (by intro h; simp only [one, two, none', bset, sset] at h <;> omega)
        refine wl_nil (x_then (hK15 _ _ ?_))
        clear hK15 K15
        refine forget [(0, _), (4, _), (5, _)] ⟨rfl, rfl, rfl, trivial⟩ (fun e => ?_)
        refine c_seq (fun K16 hK16 => ?_)
        refine c_reg ?_ -- region 10 simp.go:72
        refine wl (ro_move rfl) ?_
        refine wl (ro_nilCheck rfl) ?_
        refine wl (ro_fieldAddr (k := 4) rfl fo_101_4) ?_
        refine wl (ro_loadB rfl sc_3 (hB) (rfl)) ?_
        refine wl_make (len := nds (child r3)) (cap := nds (child r3)) rfl rfl se_98 ze_89 (by simp) (by omega) (by omega) rfl bb_89 (fun qb w9 hbqb hN F9 => ?_)
        have hbsqb := Nat.le_trans hF.size hbqb
        have hneBsbqb : B.sb < qb := Nat.lt_of_lt_of_le hB.lt hbqb
        have hneBobqb : B.ob < qb := Nat.lt_of_lt_of_le hO.lt hbqb
        have hneBkbqb : B.kb < qb := Nat.lt_of_lt_of_le hK.lt hbqb
        have hneBrbqb : B.rb < qb := Nat.lt_of_lt_of_le hR.lt hbqb
        have hneBhbqb : B.hb < qb := Nat.lt_of_lt_of_le hH.lt hbqb
        have hneBzbqb : B.zb < qb := Nat.lt_of_lt_of_le hZ.lt hbqb
        have hneBxbqb : B.xb < qb := Nat.lt_of_lt_of_le hP.lt hbqb
        have hnembqb : mb < qb := Nat.lt_of_lt_of_le hM.lt hbqb
        have hnenbqb : nb < qb := Nat.lt_of_lt_of_le hT.lt hbqb
        have hnetbqb : tb < qb := Nat.lt_of_lt_of_le hX.lt hbqb
        replace hF := hF.thenDrew.thenN F9
        replace hB := F9.blkN hB
        replace hO := F9.blkN hO
        replace hK := F9.blkN hK
        replace hR := F9.blkN hR
        replace hH := F9.blkN hH
        replace hZ := F9.blkN hZ
        replace hP := F9.blkN hP
        replace hM := F9.blkN hM
        replace hT := F9.blkN hT
        replace hX := F9.blkN hX
        refine wl (ro_assign rfl) ?_
        refine wl_nil (x_then (hK16 _ _ ?_))
        clear hK16 K16
        refine forget [(0, _), (4, _), (5, _), (6, _)] ⟨rfl, rfl, rfl, rfl, trivial⟩ (fun e => ?_)
        refine c_seq (fun K17 hK17 => ?_)
        refine c_pi [(0, false), (1, false), (2, false), (3, false), (4, false), (5, false), (6, false), (7, false), (8, false), (9, false), (10, true)] (fun w' => Blk w'.heap B.sb (B.cells (nds (child r3)) 0 0) 101) mixed (by kernel_rfl) rfl (by kernel_rfl) (po_then (po_bp)) (hB) ?_ -- region 11 simp.go:73
        refine pi_ro rfl (fun w hS => ro_move rfl) ?_
        refine pi_ro rfl (fun w hS => ro_move rfl) ?_
        refine pi_ro rfl (fun w hS => ro_nilCheck rfl) ?_
        refine pi_ro rfl (fun w hS => ro_fieldAddr (k := 3) rfl fo_101_3) ?_
        refine pi_ro rfl (fun w hS => ro_loadB rfl sc_98 (hS) (rfl)) ?_
        refine pi_ro rfl (fun w hS => ro_move rfl) ?_
        refine pi_ro rfl (fun w hS => ro_nilCheck rfl) ?_
        refine pi_ro rfl (fun w hS => ro_fieldAddr (k := 4) rfl fo_101_4) ?_
        refine pi_ro rfl (fun w hS => ro_loadB rfl sc_3 (hS) (rfl)) ?_
        refine pi_ro rfl (fun w hS => ro_sliceH (h := nds (child r3)) rfl rfl se_98 rfl (by omega)) ?_
        refine pi_copy (m := nds (child r3)) (k := 11) rfl rfl rfl se_98 hN hO (Nat.min_self _) (fun j hj ↦ pl_cells hov j hj) (by omega) (by omega) (fun w1 F ↦ F.blkF hB (by intro h; simp only [one] at h; omega)) (fun w9 hN F9 ↦ ?_)
        replace hF := hF.transG F9 (by intro k hk h; simp only [one, two, none', bset, sset] at h ⊢ <;> omega)
        replace hB := F9.blkF hB (by intro h; simp only [one, two, none', bset, sset] at h <;> omega)
        replace hO := F9.blkF hO (by intro h; simp only [one, two, none', bset, sset] at h <;> omega)
        replace hK := F9.blkF hK (by intro h; simp only [one, two, none', bset, sset] at h <;> omega)
        replace hR := F9.blkF hR (by intro h; simp only [one, two, none', bset, sset] at h <;> omega)
        replace hH := F9.blkF hH (by intro h; simp only [one, two, none', bset, sset] at h <;> omega)
        replace hZ := F9.blkF hZ (by intro h; simp only [one, two, none', bset, sset] at h <;> omega)
        replace hP := F9.blkF hP (by intro h; simp only [one, two, none', bset, sset] at h <;> omega)
        replace hM := F9.blkF hM (by intro h; simp only [one, two, none', bset, sset] at h <;> omega)
        replace hT := F9.blkF hT (by intro h; simp only [one, two, none', bset, sset] at h <;> omega)
        replace hX := F9.blkF hX (by intro h; simp only [one, two, none', bset, sset] at h <;> omega)
        refine pi_nil (x_then (hK17 _ _ ?_))
        clear hK17 K17
        refine forget [(0, _), (4, _), (5, _), (6, _)] ⟨rfl, rfl, rfl, rfl, trivial⟩ (fun e => ?_)
        refine c_seq (fun K18 hK18 => ?_)
        refine c_piL 9 [(0, false), (1, false), (2, false), (3, false), (4, false), (5, false), (6, false), (7, false), (8, false)] (SameH _) mixed (by kernel_rfl) rfl (by kernel_rfl) (po_then (po_bp)) (sameH_now _ _) ?_ -- region 12 simp.go:74
        refine ql_ro rfl (fun w hS => ro_move rfl) ?_
        refine ql_ro rfl (fun w hS => ro_move rfl) ?_
        refine ql_ro rfl (fun w hS => ro_nilCheck rfl) ?_
        refine ql_ro rfl (fun w hS => ro_fieldAddr (k := 4) rfl fo_101_4) ?_
        refine ql_ro rfl (fun w hS => ro_loadB rfl sc_3 (Blk.of_heap hB hS) (rfl)) ?_
        refine ql_ro rfl (fun w hS => ro_arith rfl rfl rfl (Go.IntWalk.i64_in _ (by omega))) ?_
        refine ql_ro rfl (fun w hS => ro_fieldAddr (k := 2) rfl fo_151_2) ?_
        refine ql_ro rfl (fun w hS => ro_loadB rfl sc_3 (Blk.of_heap hX hS) (rfl)) ?_
        refine ql_ro rfl (fun w hS => ro_build rfl bld_151_0_1_2) ?_
        refine ql_puta rfl rfl rfl (by simp [Value.oneCell', i64c, u64c, u8c, ptr]) sz_151 (rfl) hM ((by simp)) (rfl) (fun w10 hM F10 => ?_)
        replace hF := hF.thenDrew.thenO F10 (by first | exact .inr (by omega) | exact .inl rfl | exact .inl (by assumption))
        replace hB := F10.blkO hB (by omega)
        replace hO := F10.blkO hO (by omega)
        replace hK := F10.blkO hK (by omega)
        replace hR := F10.blkO hR (by omega)
        replace hH := F10.blkO hH (by omega)
        replace hZ := F10.blkO hZ (by omega)
        replace hP := F10.blkO hP (by omega)
        replace hT := F10.blkO hT (by omega)
        replace hX := F10.blkO hX (by omega)
        replace hN := F10.blkO hN (by omega)
        refine x_then (hK18 _ _ ?_)
        clear hK18 K18
        refine c_ret ?_
        refine bq_ret (res1 Tryz.results57 (rv_c rfl ag_151 (hM) rfl)) ?_
        rw [hCT]
        first
          | exact ⟨rfl, ⟨_, _, _, _, _, _, _, _, _, hB, hO, hK, hR, hH, hZ, hP⟩, hF⟩
          | (refine ⟨⟨qb, _, rfl, by omega, hN, ?_⟩, ⟨_, _, _, _, _, _, _, _, _, hB, hO, hK, hR, hH, hZ, hP⟩, hF⟩
             refine pl_ar (pro_child r3) (fun k x hx => ?_)
             have hk := (List.getElem?_eq_some_iff.1 hx).1
             rw [pl_len] at hk
             rw [← hov k x hx]
             apply cel_congr
             intro j hj
             rw [cpf_in (by omega) (by omega)]
             congr 1; omega)

theorem New15 {w : World} {xb : Nat} {fx : Nat → Value} (hP : FB w.heap xb 325 fx 96) : Ret Tryz.prog 15 [ptr xb] w (fun v w' => ∃ B : SB, v = ptr B.sb ∧ B.xb = xb ∧ w.heap.size ≤ B.sb ∧ D7 B ∧ SMV w'.heap B ∧ Fram none' w w') := by
  have hF : Fram none' w w := Fram.refl _ _
  refine ret_of Tryz.func15 rfl Tryz.ntmps15 rfl ?_
  refine c_seq (fun K1 hK1 => ?_)
  refine c_reg ?_ -- region 0 simp.go:45
  refine wl (ro_assign rfl) ?_
  refine wl_nil (x_then (hK1 _ _ ?_))
  clear hK1 K1
  refine forget [(0, _)] ⟨rfl, trivial⟩ (fun e => ?_)
  refine c_seq (fun K2 hK2 => ?_)
  refine c_reg ?_ -- region 1 simp.go:46
  refine wl (ro_move rfl) ?_
  refine wl (ro_build rfl bld_101_0) ?_
  refine wl_box (cs := [ptr xb, .slice none 0 0, .slice none 0 0, .slice none 0 0, icv 0, .slice none 0 0, icv 0, .slice none 0 0, icv 0]) rfl rfl (fun sb w1 hbsb hB F1 => ?_)
  have hbssb := Nat.le_trans hF.size hbsb
  have hnexbsb : xb < sb := Nat.lt_of_lt_of_le hP.lt hbsb
  replace hF := hF.thenDrew.thenN F1
  replace hP := F1.blkN hP
  refine wl (ro_assign rfl) ?_
  refine wl_nil (x_then (hK2 _ _ ?_))
  clear hK2 K2
  refine forget [(3, _)] ⟨rfl, trivial⟩ (fun e => ?_)
  refine c_seq (fun K3 hK3 => ?_)
  refine c_reg ?_ -- region 2 simp.go:47
  refine wl (ro_move rfl) ?_
  refine wl_make (len := 24) (cap := 24) rfl rfl se_97 ze_3 (by simp) (by omega) (by omega) rfl bb_3 (fun hb w2 hbhb hH F2 => ?_)
  have hbshb := Nat.le_trans hF.size hbhb
  have hnexbhb : xb < hb := Nat.lt_of_lt_of_le hP.lt hbhb
  have hnesbhb : sb < hb := Nat.lt_of_lt_of_le hB.lt hbhb
  replace hF := hF.thenDrew.thenN F2
  replace hP := F2.blkN hP
  replace hB := F2.blkN hB
  refine wl (ro_nilCheck rfl) ?_
  refine wl (ro_fieldAddr (k := 1) rfl fo_101_1) ?_
  refine wl_put rfl rfl rfl sz_97 hB ((by simp)) (rfl) (fun w3 hB F3 => ?_)
  replace hF := hF.thenDrew.thenO F3 (by first | exact .inr (by omega) | exact .inl rfl | exact .inl (by assumption))
  replace hP := F3.blkO hP (by omega)
  replace hH := F3.blkO hH (by omega)
  refine wl_nil (x_then (hK3 _ _ ?_))
  clear hK3 K3
  refine forget [(3, _)] ⟨rfl, trivial⟩ (fun e => ?_)
  refine c_seq (fun K4 hK4 => ?_)
  refine c_reg ?_ -- region 3 simp.go:48
  refine wl (ro_move rfl) ?_
  refine wl_make (len := 24) (cap := 24) rfl rfl se_97 ze_3 (by simp) (by omega) (by omega) rfl bb_3 (fun zb w4 hbzb hZ F4 => ?_)
  have hbszb := Nat.le_trans hF.size hbzb
  have hnexbzb : xb < zb := Nat.lt_of_lt_of_le hP.lt hbzb
  have hnesbzb : sb < zb := Nat.lt_of_lt_of_le hB.lt hbzb
  have hnehbzb : hb < zb := Nat.lt_of_lt_of_le hH.lt hbzb
  replace hF := hF.thenDrew.thenN F4
  replace hP := F4.blkN hP
  replace hB := F4.blkN hB
  replace hH := F4.blkN hH
  refine wl (ro_nilCheck rfl) ?_
  refine wl (ro_fieldAddr (k := 2) rfl fo_101_2) ?_
  refine wl_put rfl rfl rfl sz_97 hB ((by simp)) (rfl) (fun w5 hB F5 => ?_)
  replace hF := hF.thenDrew.thenO F5 (by first | exact .inr (by omega) | exact .inl rfl | exact .inl (by assumption))
  replace hP := F5.blkO hP (by omega)
  replace hH := F5.blkO hH (by omega)
  replace hZ := F5.blkO hZ (by omega)
  refine wl_nil (x_then (hK4 _ _ ?_))
  clear hK4 K4
  refine forget [(3, _)] ⟨rfl, trivial⟩ (fun e => ?_)
  refine c_seq (fun K5 hK5 => ?_)
  refine c_reg ?_ -- region 4 simp.go:49
  refine wl (ro_move rfl) ?_
  refine wl_make (len := 31) (cap := 31) rfl rfl se_98 ze_89 (by simp) (by omega) (by omega) rfl bb_89 (fun ob w6 hbob hO F6 => ?_)
  have hbsob := Nat.le_trans hF.size hbob
  have hnexbob : xb < ob := Nat.lt_of_lt_of_le hP.lt hbob
  have hnesbob : sb < ob := Nat.lt_of_lt_of_le hB.lt hbob
  have hnehbob : hb < ob := Nat.lt_of_lt_of_le hH.lt hbob
  have hnezbob : zb < ob := Nat.lt_of_lt_of_le hZ.lt hbob
  replace hF := hF.thenDrew.thenN F6
  replace hP := F6.blkN hP
  replace hB := F6.blkN hB
  replace hH := F6.blkN hH
  replace hZ := F6.blkN hZ
  refine wl (ro_nilCheck rfl) ?_
  refine wl (ro_fieldAddr (k := 3) rfl fo_101_3) ?_
  refine wl_put rfl rfl rfl sz_98 hB ((by simp)) (rfl) (fun w7 hB F7 => ?_)
  replace hF := hF.thenDrew.thenO F7 (by first | exact .inr (by omega) | exact .inl rfl | exact .inl (by assumption))
  replace hP := F7.blkO hP (by omega)
  replace hH := F7.blkO hH (by omega)
  replace hZ := F7.blkO hZ (by omega)
  replace hO := F7.blkO hO (by omega)
  refine wl_nil (x_then (hK5 _ _ ?_))
  clear hK5 K5
  refine forget [(3, _)] ⟨rfl, trivial⟩ (fun e => ?_)
  refine c_seq (fun K6 hK6 => ?_)
  refine c_reg ?_ -- region 5 simp.go:50
  refine wl (ro_move rfl) ?_
  refine wl_make (len := 49) (cap := 49) rfl rfl se_99 ze_202 (by simp) (by omega) (by omega) rfl bb_202 (fun kb w8 hbkb hK F8 => ?_)
  have hbskb := Nat.le_trans hF.size hbkb
  have hnexbkb : xb < kb := Nat.lt_of_lt_of_le hP.lt hbkb
  have hnesbkb : sb < kb := Nat.lt_of_lt_of_le hB.lt hbkb
  have hnehbkb : hb < kb := Nat.lt_of_lt_of_le hH.lt hbkb
  have hnezbkb : zb < kb := Nat.lt_of_lt_of_le hZ.lt hbkb
  have hneobkb : ob < kb := Nat.lt_of_lt_of_le hO.lt hbkb
  replace hF := hF.thenDrew.thenN F8
  replace hP := F8.blkN hP
  replace hB := F8.blkN hB
  replace hH := F8.blkN hH
  replace hZ := F8.blkN hZ
  replace hO := F8.blkN hO
  refine wl (ro_nilCheck rfl) ?_
  refine wl (ro_fieldAddr (k := 5) rfl fo_101_5) ?_
  refine wl_put rfl rfl rfl sz_99 hB ((by simp)) (rfl) (fun w9 hB F9 => ?_)
  replace hF := hF.thenDrew.thenO F9 (by first | exact .inr (by omega) | exact .inl rfl | exact .inl (by assumption))
  replace hP := F9.blkO hP (by omega)
  replace hH := F9.blkO hH (by omega)
  replace hZ := F9.blkO hZ (by omega)
  replace hO := F9.blkO hO (by omega)
  replace hK := F9.blkO hK (by omega)
  refine wl_nil (x_then (hK6 _ _ ?_))
  clear hK6 K6
  refine forget [(3, _)] ⟨rfl, trivial⟩ (fun e => ?_)
  refine c_seq (fun K7 hK7 => ?_)
  refine c_reg ?_ -- region 6 simp.go:51
  refine wl (ro_move rfl) ?_
  refine wl_make (len := 25) (cap := 25) rfl rfl se_97 ze_3 (by simp) (by omega) (by omega) rfl bb_3 (fun rb w10 hbrb hR F10 => ?_)
  have hbsrb := Nat.le_trans hF.size hbrb
  have hnexbrb : xb < rb := Nat.lt_of_lt_of_le hP.lt hbrb
  have hnesbrb : sb < rb := Nat.lt_of_lt_of_le hB.lt hbrb
  have hnehbrb : hb < rb := Nat.lt_of_lt_of_le hH.lt hbrb
  have hnezbrb : zb < rb := Nat.lt_of_lt_of_le hZ.lt hbrb
  have hneobrb : ob < rb := Nat.lt_of_lt_of_le hO.lt hbrb
  have hnekbrb : kb < rb := Nat.lt_of_lt_of_le hK.lt hbrb
  replace hF := hF.thenDrew.thenN F10
  replace hP := F10.blkN hP
  replace hB := F10.blkN hB
  replace hH := F10.blkN hH
  replace hZ := F10.blkN hZ
  replace hO := F10.blkN hO
  replace hK := F10.blkN hK
  refine wl (ro_nilCheck rfl) ?_
  refine wl (ro_fieldAddr (k := 7) rfl fo_101_7) ?_
  refine wl_put rfl rfl rfl sz_97 hB ((by simp)) (rfl) (fun w11 hB F11 => ?_)
  replace hF := hF.thenDrew.thenO F11 (by first | exact .inr (by omega) | exact .inl rfl | exact .inl (by assumption))
  replace hP := F11.blkO hP (by omega)
  replace hH := F11.blkO hH (by omega)
  replace hZ := F11.blkO hZ (by omega)
  replace hO := F11.blkO hO (by omega)
  replace hK := F11.blkO hK (by omega)
  replace hR := F11.blkO hR (by omega)
  refine wl_nil (x_then (hK7 _ _ ?_))
  clear hK7 K7
  refine forget [(3, _)] ⟨rfl, trivial⟩ (fun e => ?_)
  refine c_seq (fun K8 hK8 => ?_)
  refine c_reg ?_ -- region 7 simp.go:52
  refine wl (ro_move rfl) ?_
  refine wl (ro_assign rfl) ?_
  refine wl_nil (x_then (hK8 _ _ ?_))
  clear hK8 K8
  refine c_ret ?_
  refine bp_ret Tryz.results15 rfl ?_
  exact ⟨⟨sb, xb, hb, zb, ob, kb, rb⟩, rfl, rfl, by show w.heap.size ≤ sb; omega, ⟨by show xb < sb; omega, by show sb < hb; omega, by show hb < zb; omega, by show zb < ob; omega, by show ob < kb; omega, by show kb < rb; omega⟩, ⟨0, 0, 0, _, _, _, _, _, _, hB, hO, hK, hR, hH, hZ, hP⟩, hF⟩

end Go.Proofs.Qxb6500567aGreat
