import Derived.Test.Qxb6500567aGreatGf
/- The model's engine. -/
namespace Go.Proofs.Qxb6500567aGreat
set_option linter.unusedVariables false
set_option linter.unusedSimpArgs false

/-- What the engine answers: an error, or a search. -/
def engT (p s : List UInt8) : Except Er RE := if 128 < p.length ∨ 256 < s.length then .error (12, 0) else match coreT p with
  | .error e => .error e
  | .ok (r, _) => .ok r

/-- The cells of the answer. -/
def engc (p s : List UInt8) (i : Nat) : List Value := match engT p s with
  | .error e => fdc e.1 e.2 false nocaps
  | .ok r => fdc 0 0 (lft s r i).isSome (capO (lft s r i))

theorem coreT_ok {p : List UInt8} {r : RE} {g : Nat} (h : coreT p = .ok (r, g)) : parseT p = .ok (r, g) ∧ WF r ∧ nds r ≤ 24 ∧ nds (child r) ≤ 31 := by
  unfold coreT at h
  rcases hp : parseT p with e | ⟨r', g'⟩
  · rw [hp] at h; cases h
  · rw [hp] at h
    simp only at h
    split at h
    · cases h
    · cases h
      obtain ⟨h1, h2⟩ := parseT_ok hp
      exact ⟨rfl, h1, h2, by omega⟩
theorem coreT_er {p : List UInt8} {e : Er} (h : coreT p = .error e) : e.1 ≠ 0 := by
  unfold coreT at h
  rcases hp : parseT p with e' | ⟨r', g'⟩
  · rw [hp] at h; cases h; exact parseT_er hp
  · rw [hp] at h
    simp only at h
    split at h
    · cases h; simp
    · cases h

theorem engT_er {p s : List UInt8} {e : Er} (h : engT p s = .error e) : e.1 ≠ 0 := by
  unfold engT at h
  split at h
  · cases h; simp
  · rcases hc : coreT p with e' | ⟨r, g⟩
    · rw [hc] at h; cases h; exact coreT_er hc
    · rw [hc] at h; cases h
theorem engT_ok {p s : List UInt8} {r : RE} (h : engT p s = .ok r) : WF r ∧ nds (child r) ≤ 31 ∧ p.length ≤ 128 ∧ s.length ≤ 256 ∧ ∃ g, coreT p = .ok (r, g) := by
  unfold engT at h
  split at h
  · cases h
  · rename_i hl
    rcases hc : coreT p with e' | ⟨r', g⟩
    · rw [hc] at h; cases h
    · rw [hc] at h; cases h
      obtain ⟨_, h1, _, h2⟩ := coreT_ok hc
      exact ⟨h1, h2, by omega, by omega, g, rfl⟩

theorem engc_cells (p s : List UInt8) (i : Nat) : ∀ u ∈ engc p s i, u.oneCell' = true := by
  unfold engc
  split
  · exact fdc_cells _ _ _ _
  · exact fdc_cells _ _ _ _
theorem engc_len (p s : List UInt8) (i : Nat) : (engc p s i).length = 11 := by
  unfold engc
  split <;> rfl

theorem engc_form (p s : List UInt8) (i : Nat) : ∃ (e q : Nat) (ok : Bool) (c : List Int), engc p s i = fdc e q ok c := by
  unfold engc
  split
  · exact ⟨_, _, _, _, rfl⟩
  · exact ⟨0, 0, _, _, rfl⟩

/-- The blocks of the model's engine. -/
structure MB where
  eb : Nat
  pb : Nat
  mb : Nat
  qb : Nat

/-- The engine between calls; no counter is above n. -/
def MEV (H : Array Obj) (E : MB) (n : Nat) : Prop := ∃ a b c d h : Nat, a ≤ n ∧ b ≤ n ∧ c ≤ n ∧ d ≤ n ∧ Blk H E.eb [ptr E.pb, ptr E.mb, i64c d, i64c h] 84 ∧ Blk H E.pb [i64c a] 135 ∧ Blk H E.mb [ptr E.qb, i64c b] 137 ∧ Blk H E.qb [i64c c] 135
structure MBo (E : MB) : Prop where
  pq : E.pb < E.qb
  qm : E.qb < E.mb
  me : E.mb < E.eb
def mset (E : MB) : Nat → Prop := fun k => k = E.eb ∨ k = E.pb ∨ k = E.mb ∨ k = E.qb

theorem MEV.fram {w w' : World} {E : MB} {n : Nat} {F : Nat → Prop} (h : MEV w.heap E n) (f : Fram F w w') (hn : ∀ k, mset E k → ¬ F k) : MEV w'.heap E n := by
  obtain ⟨a, b, c, d, h', h1, h2, h3, h4, h5, h6, h7, h8⟩ := h
  exact ⟨a, b, c, d, h', h1, h2, h3, h4, h5.fram f (hn _ (.inl rfl)), h6.fram f (hn _ (.inr (.inl rfl))), h7.fram f (hn _ (.inr (.inr (.inl rfl)))), h8.fram f (hn _ (.inr (.inr (.inr rfl))))⟩
theorem MEV.up {H : Array Obj} {E : MB} {n m : Nat} (h : MEV H E n) (hm : n ≤ m) : MEV H E m := by
  obtain ⟨a, b, c, d, h', h1, h2, h3, h4, h5⟩ := h
  exact ⟨a, b, c, d, h', by omega, by omega, by omega, by omega, h5⟩
theorem MEV.lt {w : World} {E : MB} {n : Nat} (h : MEV w.heap E n) : ∀ k, mset E k → k < w.heap.size := by
  obtain ⟨a, b, c, d, h', h1, h2, h3, h4, h5, h6, h7, h8⟩ := h
  rintro k (rfl | rfl | rfl | rfl)
  · exact h5.lt
  · exact h6.lt
  · exact h7.lt
  · exact h8.lt

set_option maxHeartbeats 4000000 in
theorem search52 {w : World} {E : MB} {n i : Nat} {p s : List UInt8} (D : MBo E) (V : MEV w.heap E n) (hn : n ≤ 1000000000000000) (hpm : p.length ≤ 9223372036854775807) (hsm : s.length ≤ 9223372036854775807) (hi : i ≤ s.length) :
    Ret Tryz.prog 52 [ptr E.eb, S p, S s, i64c i] w (fun v w' => v = .agg (engc p s i).toArray ∧ MEV w'.heap E (n + 1) ∧ Fram (mset E) w w') := by
  have hF : Fram (mset E) w w := Fram.refl _ _
  obtain ⟨d1, d2, d3⟩ := D
  obtain ⟨a, b, c, d, h, h1, h2, h3, h4, hB, hP, hM, hQ⟩ := V
  have b1 := hB.lt
  have b2 := hP.lt
  have b3 := hM.lt
  have b4 := hQ.lt
  refine ret_of Tryz.func52 rfl Tryz.ntmps52 rfl ?_
  refine c_seq (fun K1 hK1 => ?_)
  refine c_reg ?_ -- region 0 progm.go:23
  refine wl_new (ze_57) (fun rb w1 hbrb hR F1 => ?_)
  have hbsrb := Nat.le_trans hF.size hbrb
  have hneE.ebrb : E.eb < rb := Nat.lt_of_lt_of_le hB.lt hbrb
  have hneE.pbrb : E.pb < rb := Nat.lt_of_lt_of_le hP.lt hbrb
  have hneE.mbrb : E.mb < rb := Nat.lt_of_lt_of_le hM.lt hbrb
  have hneE.qbrb : E.qb < rb := Nat.lt_of_lt_of_le hQ.lt hbrb
  replace hF := hF.thenDrew.thenN F1
  replace hB := F1.blkN hB
  replace hP := F1.blkN hP
  replace hM := F1.blkN hM
  replace hQ := F1.blkN hQ
  refine wl_nil (x_then (hK1 _ _ ?_))
  clear hK1 K1
  refine c_seq (fun K2 hK2 => ?_)
  refine c_seq (fun K3 hK3 => ?_)
  have hql : 128 < p.length ∨ (p.length ≤ 128 ∧ 256 < s.length) ∨ (p.length ≤ 128 ∧ s.length ≤ 256) := by omega
  rcases hql with q | q | q
  · skip
    have hE : engT p s = .error (12, 0) := by unfold engT; rw [if_pos (by omega)]
    refine c_reg ?_ -- region 1 progm.go:24
    refine wl (ro_move rfl) ?_
    refine wl (ro_lenS rfl st_9) ?_
    refine wl (ro_cmp (r := true) rfl rfl (congrArg some (decide_eq_true (by omega)))) ?_
    refine wl (ro_move rfl) ?_
    refine wlg_no rfl ?_
    refine wlg_no rfl ?_
    refine wlg_no rfl ?_
    refine wl (ro_pick rfl rfl rfl) ?_
    refine wl_nil (x_then (hK3 _ _ ?_))
    clear hK3 K3
    refine wc_condT rfl ?_
    refine c_seq (fun K4 hK4 => ?_)
    refine c_reg ?_ -- region 2 progm.go:25
    refine wl_call rfl en_35 (Refused35 (er := 12) (p := 0)) ?_
    rintro _ w2 ⟨rfl, F2⟩
    replace hF := hF.thenDrew.thenN F2
    replace hB := F2.blkN hB
    replace hP := F2.blkN hP
    replace hM := F2.blkN hM
    replace hQ := F2.blkN hQ
    replace hR := F2.blkN hR
    refine wl_puta rfl rfl ((fdc_cells 12 0 false nocaps)) sz_57 (rfl) hR ((by simp)) (rfl) (fun w3 hR F3 => ?_)
    replace hF := hF.thenDrew.thenO F3 (by first | exact .inr (by omega) | exact .inl rfl | exact .inl (by assumption))
    replace hB := F3.blkO hB (by omega)
    replace hP := F3.blkO hP (by omega)
    replace hM := F3.blkO hM (by omega)
    replace hQ := F3.blkO hQ (by omega)
    refine wl_nil (x_then (hK4 _ _ ?_))
    clear hK4 K4
    refine c_ret (x_thenR ?_)
    refine bq_ret (res1 Tryz.results52 (rv_c rfl ag_57 (hR) rfl)) ?_
    unfold engc; rw [hE]; exact ⟨rfl, ⟨a, b, c, d, h, by omega, by omega, by omega, by omega, hB, hP, hM, hQ⟩, hF⟩
  · skip
    have hE : engT p s = .error (12, 0) := by unfold engT; rw [if_pos (by omega)]
    refine c_reg ?_ -- region 1 progm.go:24
    refine wl (ro_move rfl) ?_
    refine wl (ro_lenS rfl st_9) ?_
    refine wl (ro_cmp (r := false) rfl rfl (congrArg some (decide_eq_false (by omega)))) ?_
    refine wl (ro_move rfl) ?_
    refine wlg_yes rfl (ro_move rfl) ?_
    refine wlg_yes rfl (ro_lenS rfl st_9) ?_
    refine wlg_yes rfl (ro_cmp (r := true) rfl rfl (congrArg some (decide_eq_true (by omega)))) ?_
    refine wl (ro_pick rfl rfl rfl) ?_
    refine wl_nil (x_then (hK3 _ _ ?_))
    clear hK3 K3
    refine wc_condT rfl ?_
    refine c_seq (fun K5 hK5 => ?_)
    refine c_reg ?_ -- region 2 progm.go:25
    refine wl_call rfl en_35 (Refused35 (er := 12) (p := 0)) ?_
    rintro _ w4 ⟨rfl, F4⟩
    replace hF := hF.thenDrew.thenN F4
    replace hB := F4.blkN hB
    replace hP := F4.blkN hP
    replace hM := F4.blkN hM
    replace hQ := F4.blkN hQ
    replace hR := F4.blkN hR
    refine wl_puta rfl rfl ((fdc_cells 12 0 false nocaps)) sz_57 (rfl) hR ((by simp)) (rfl) (fun w5 hR F5 => ?_)
    replace hF := hF.thenDrew.thenO F5 (by first | exact .inr (by omega) | exact .inl rfl | exact .inl (by assumption))
    replace hB := F5.blkO hB (by omega)
    replace hP := F5.blkO hP (by omega)
    replace hM := F5.blkO hM (by omega)
    replace hQ := F5.blkO hQ (by omega)
    refine wl_nil (x_then (hK5 _ _ ?_))
    clear hK5 K5
    refine c_ret (x_thenR ?_)
    refine bq_ret (res1 Tryz.results52 (rv_c rfl ag_57 (hR) rfl)) ?_
    unfold engc; rw [hE]; exact ⟨rfl, ⟨a, b, c, d, h, by omega, by omega, by omega, by omega, hB, hP, hM, hQ⟩, hF⟩
  · skip
    have hE : engT p s = match coreT p with | .error e => .error e | .ok (r, _) => .ok r := by unfold engT; rw [if_neg (by omega)]
    refine c_reg ?_ -- region 1 progm.go:24
    refine wl (ro_move rfl) ?_
    refine wl (ro_lenS rfl st_9) ?_
    refine wl (ro_cmp (r := false) rfl rfl (congrArg some (decide_eq_false (by omega)))) ?_
    refine wl (ro_move rfl) ?_
    refine wlg_yes rfl (ro_move rfl) ?_
    refine wlg_yes rfl (ro_lenS rfl st_9) ?_
    refine wlg_yes rfl (ro_cmp (r := false) rfl rfl (congrArg some (decide_eq_false (by omega)))) ?_
    refine wl (ro_pick rfl rfl rfl) ?_
    refine wl_nil (x_then (hK3 _ _ ?_))
    clear hK3 K3
    refine wc_condF rfl ?_
    refine c_skip (x_then (hK2 _ _ ?_))
    clear hK2 K2
    refine forget [(0, _), (1, _), (2, _), (3, _), (8, _)] ⟨rfl, rfl, rfl, rfl, rfl, trivial⟩ (fun e => ?_)
    refine c_seq (fun K6 hK6 => ?_)
    rcases hPT : parseT p with e3 | ⟨r3, g3⟩
    · skip
      have he3 := parseT_er hPT
      have hCT : coreT p = .error e3 := by unfold coreT; rw [hPT]
      rw [hCT] at hE
      refine c_reg ?_ -- region 3 progm.go:27
      refine wl (ro_move rfl) ?_
      refine wl (ro_nilCheck rfl) ?_
      refine wl (ro_fieldAddr (k := 0) rfl fo_84_0) ?_
      refine wl (ro_loadB rfl sc_79 (hB) (rfl)) ?_
      refine wl (ro_move rfl) ?_
      refine wl_call rfl en_66 (Parse66 hP (by omega) hpm) ?_
      rintro v w3 ⟨hTV, hP, F3⟩
      replace hF := hF.transG F3 (by intro k hk h; simp only [one, two, none', mset] at h ⊢ <;> omega)
      replace hB := F3.blkF hB (by intro h; simp only [one, two, none', mset] at h <;> omega)
      replace hM := F3.blkF hM (by intro h; simp only [one, two, none', mset] at h <;> omega)
      replace hQ := F3.blkF hQ (by intro h; simp only [one, two, none', mset] at h <;> omega)
      replace hR := F3.blkF hR (by intro h; simp only [one, two, none', mset] at h <;> omega)
      rw [hPT] at hTV
      obtain rfl := hTV
      refine wl_new (ze_151) (fun tb w6 hbtb hX F6 => ?_)
      have hbstb := Nat.le_trans hF.size hbtb
      have hneE.ebtb : E.eb < tb := Nat.lt_of_lt_of_le hB.lt hbtb
      have hneE.pbtb : E.pb < tb := Nat.lt_of_lt_of_le hP.lt hbtb
      have hneE.mbtb : E.mb < tb := Nat.lt_of_lt_of_le hM.lt hbtb
      have hneE.qbtb : E.qb < tb := Nat.lt_of_lt_of_le hQ.lt hbtb
      have hnerbtb : rb < tb := Nat.lt_of_lt_of_le hR.lt hbtb
      replace hF := hF.thenDrew.thenN F6
      replace hB := F6.blkN hB
      replace hP := F6.blkN hP
      replace hM := F6.blkN hM
      replace hQ := F6.blkN hQ
      replace hR := F6.blkN hR
      refine wl_puta rfl rfl (by simp [Value.oneCell', i64c, u64c, u8c, ptr]) sz_151 (rfl) hX ((by simp)) (rfl) (fun w7 hX F7 => ?_)
      replace hF := hF.thenDrew.thenO F7 (by first | exact .inr (by omega) | exact .inl rfl | exact .inl (by assumption))
      replace hB := F7.blkO hB (by omega)
      replace hP := F7.blkO hP (by omega)
      replace hM := F7.blkO hM (by omega)
      replace hQ := F7.blkO hQ (by omega)
      replace hR := F7.blkO hR (by omega)
      refine wl_nil (x_then (hK6 _ _ ?_))
      clear hK6 K6
      refine c_seq (fun K7 hK7 => ?_)
      refine c_seq (fun K8 hK8 => ?_)
      refine c_reg ?_ -- region 4 progm.go:28
      refine wl (ro_fieldAddr (k := 3) rfl fo_151_3) ?_
      refine wl (ro_loadB rfl sc_53 (hX) (rfl)) ?_
      refine wl (ro_cmp (r := true) rfl rfl (congrArg some ((bnec e3.1 0).trans (decide_eq_true he3)))) ?_
      refine wl_nil (x_then (hK8 _ _ ?_))
      clear hK8 K8
      refine wc_condT rfl ?_
      refine c_seq (fun K9 hK9 => ?_)
      refine c_reg ?_ -- region 5 progm.go:29
      refine wl (ro_fieldAddr (k := 3) rfl fo_151_3) ?_
      refine wl (ro_loadB rfl sc_53 (hX) (rfl)) ?_
      refine wl (ro_fieldAddr (k := 4) rfl fo_151_4) ?_
      refine wl (ro_loadB rfl sc_3 (hX) (rfl)) ?_
      refine wl_call rfl en_35 (Refused35 (er := e3.1) (p := e3.2)) ?_
      rintro _ w8 ⟨rfl, F8⟩
      replace hF := hF.thenDrew.thenN F8
      replace hB := F8.blkN hB
      replace hP := F8.blkN hP
      replace hM := F8.blkN hM
      replace hQ := F8.blkN hQ
      replace hR := F8.blkN hR
      replace hX := F8.blkN hX
      refine wl_puta rfl rfl ((fdc_cells e3.1 e3.2 false nocaps)) sz_57 (rfl) hR ((by simp)) (rfl) (fun w9 hR F9 => ?_)
      replace hF := hF.thenDrew.thenO F9 (by first | exact .inr (by omega) | exact .inl rfl | exact .inl (by assumption))
      replace hB := F9.blkO hB (by omega)
      replace hP := F9.blkO hP (by omega)
      replace hM := F9.blkO hM (by omega)
      replace hQ := F9.blkO hQ (by omega)
      replace hX := F9.blkO hX (by omega)
      refine wl_nil (x_then (hK9 _ _ ?_))
      clear hK9 K9
      refine c_ret (x_thenR ?_)
      refine bq_ret (res1 Tryz.results52 (rv_c rfl ag_57 (hR) rfl)) ?_
      unfold engc; rw [hE]; exact ⟨rfl, ⟨_, b, c, d, h, by omega, by omega, by omega, by omega, hB, hP, hM, hQ⟩, hF⟩
    · skip
      obtain ⟨hw3, hn3⟩ := parseT_ok hPT
      have hmlt := hR.lt
      refine c_reg ?_ -- region 3 progm.go:27
      refine wl (ro_move rfl) ?_
      refine wl (ro_nilCheck rfl) ?_
      refine wl (ro_fieldAddr (k := 0) rfl fo_84_0) ?_
      refine wl (ro_loadB rfl sc_79 (hB) (rfl)) ?_
      refine wl (ro_move rfl) ?_
      refine wl_call rfl en_66 (Parse66 hP (by omega) hpm) ?_
      rintro v w3 ⟨hTV, hP, F3⟩
      have hszl := hF.size
      replace hF := hF.transG F3 (by intro k hk h; simp only [one, two, none', mset] at h ⊢ <;> omega)
      replace hB := F3.blkF hB (by intro h; simp only [one, two, none', mset] at h <;> omega)
      replace hM := F3.blkF hM (by intro h; simp only [one, two, none', mset] at h <;> omega)
      replace hQ := F3.blkF hQ (by intro h; simp only [one, two, none', mset] at h <;> omega)
      replace hR := F3.blkF hR (by intro h; simp only [one, two, none', mset] at h <;> omega)
      rw [hPT] at hTV
      obtain ⟨nb, cap, root, T, cc, rfl, hnb, hT, hle, h24, hAR, hroot⟩ := hTV
      have hmbnb : rb < nb := Nat.lt_of_lt_of_le hmlt hnb
      have hnbw : w.heap.size ≤ nb := Nat.le_trans hszl hnb
      refine wl_new (ze_151) (fun tb w10 hbtb hX F10 => ?_)
      have hbstb := Nat.le_trans hF.size hbtb
      have hneE.ebtb : E.eb < tb := Nat.lt_of_lt_of_le hB.lt hbtb
      have hneE.pbtb : E.pb < tb := Nat.lt_of_lt_of_le hP.lt hbtb
      have hneE.mbtb : E.mb < tb := Nat.lt_of_lt_of_le hM.lt hbtb
      have hneE.qbtb : E.qb < tb := Nat.lt_of_lt_of_le hQ.lt hbtb
      have hnerbtb : rb < tb := Nat.lt_of_lt_of_le hR.lt hbtb
      have hnenbtb : nb < tb := Nat.lt_of_lt_of_le hT.lt hbtb
      replace hF := hF.thenDrew.thenN F10
      replace hB := F10.blkN hB
      replace hP := F10.blkN hP
      replace hM := F10.blkN hM
      replace hQ := F10.blkN hQ
      replace hR := F10.blkN hR
      replace hT := F10.blkN hT
      refine wl_puta rfl rfl (by simp [Value.oneCell', i64c, u64c, u8c, ptr]) sz_151 (rfl) hX ((by simp)) (rfl) (fun w11 hX F11 => ?_)
      replace hF := hF.thenDrew.thenO F11 (by first | exact .inr (by omega) | exact .inl rfl | exact .inl (by assumption))
      replace hB := F11.blkO hB (by omega)
      replace hP := F11.blkO hP (by omega)
      replace hM := F11.blkO hM (by omega)
      replace hQ := F11.blkO hQ (by omega)
      replace hR := F11.blkO hR (by omega)
      replace hT := F11.blkO hT (by omega)
      refine wl_nil (x_then (hK6 _ _ ?_))
      clear hK6 K6
      refine c_seq (fun K10 hK10 => ?_)
      refine c_seq (fun K11 hK11 => ?_)
      refine c_reg ?_ -- region 4 progm.go:28
      refine wl (ro_fieldAddr (k := 3) rfl fo_151_3) ?_
      refine wl (ro_loadB rfl sc_53 (hX) (rfl)) ?_
      refine wl (ro_cmp rfl rfl rfl) ?_
      refine wl_nil (x_then (hK11 _ _ ?_))
      clear hK11 K11
      refine wc_condF rfl ?_
      refine c_skip (x_then (hK10 _ _ ?_))
      clear hK10 K10
      refine forget [(0, _), (1, _), (2, _), (3, _), (8, _), (9, _)] ⟨rfl, rfl, rfl, rfl, rfl, rfl, trivial⟩ (fun e => ?_)
      refine c_seq (fun K12 hK12 => ?_)
      rcases hCT : coreT p with e6 | ⟨r6, g6⟩
      · skip
        have he6 := coreT_er hCT
        rw [hCT] at hE
        refine c_reg ?_ -- region 6 progm.go:31
        refine wl (ro_move rfl) ?_
        refine wl (ro_nilCheck rfl) ?_
        refine wl (ro_fieldAddr (k := 1) rfl fo_84_1) ?_
        refine wl (ro_loadB rfl sc_81 (hB) (rfl)) ?_
        refine wl (ro_move rfl) ?_
        refine wl_call rfl en_67 (Core67 hM hQ d2 (by omega) (by omega) hpm) ?_
        rintro v w4 ⟨hEV, hM, hQ, F4⟩
        replace hF := hF.transG F4 (by intro k hk h; simp only [one, two, none', mset] at h ⊢ <;> omega)
        replace hB := F4.blkF hB (by intro h; simp only [one, two, none', mset] at h <;> omega)
        replace hP := F4.blkF hP (by intro h; simp only [one, two, none', mset] at h <;> omega)
        replace hR := F4.blkF hR (by intro h; simp only [one, two, none', mset] at h <;> omega)
        replace hT := F4.blkF hT (by intro h; simp only [one, two, none', mset] at h <;> omega)
        replace hX := F4.blkF hX (by intro h; simp only [one, two, none', mset] at h <;> omega)
        rw [hCT] at hEV
        obtain rfl := hEV
        refine wl_new (ze_151) (fun yb w12 hbyb hY F12 => ?_)
        have hbsyb := Nat.le_trans hF.size hbyb
        have hneE.ebyb : E.eb < yb := Nat.lt_of_lt_of_le hB.lt hbyb
        have hneE.pbyb : E.pb < yb := Nat.lt_of_lt_of_le hP.lt hbyb
        have hneE.mbyb : E.mb < yb := Nat.lt_of_lt_of_le hM.lt hbyb
        have hneE.qbyb : E.qb < yb := Nat.lt_of_lt_of_le hQ.lt hbyb
        have hnerbyb : rb < yb := Nat.lt_of_lt_of_le hR.lt hbyb
        have hnenbyb : nb < yb := Nat.lt_of_lt_of_le hT.lt hbyb
        have hnetbyb : tb < yb := Nat.lt_of_lt_of_le hX.lt hbyb
        replace hF := hF.thenDrew.thenN F12
        replace hB := F12.blkN hB
        replace hP := F12.blkN hP
        replace hM := F12.blkN hM
        replace hQ := F12.blkN hQ
        replace hR := F12.blkN hR
        replace hT := F12.blkN hT
        replace hX := F12.blkN hX
        refine wl_puta rfl rfl (by simp [Value.oneCell', i64c, u64c, u8c, ptr]) sz_151 (rfl) hY ((by simp)) (rfl) (fun w13 hY F13 => ?_)
        replace hF := hF.thenDrew.thenO F13 (by first | exact .inr (by omega) | exact .inl rfl | exact .inl (by assumption))
        replace hB := F13.blkO hB (by omega)
        replace hP := F13.blkO hP (by omega)
        replace hM := F13.blkO hM (by omega)
        replace hQ := F13.blkO hQ (by omega)
        replace hR := F13.blkO hR (by omega)
        replace hT := F13.blkO hT (by omega)
        replace hX := F13.blkO hX (by omega)
        refine wl_nil (x_then (hK12 _ _ ?_))
        clear hK12 K12
        refine c_seq (fun K13 hK13 => ?_)
        refine c_seq (fun K14 hK14 => ?_)
        refine c_reg ?_ -- region 7 progm.go:32
        refine wl (ro_fieldAddr (k := 3) rfl fo_151_3) ?_
        refine wl (ro_loadB rfl sc_53 (hY) (rfl)) ?_
        refine wl (ro_cmp (r := true) rfl rfl (congrArg some ((bnec e6.1 0).trans (decide_eq_true he6)))) ?_
        refine wl_nil (x_then (hK14 _ _ ?_))
        clear hK14 K14
        refine wc_condT rfl ?_
        refine c_seq (fun K15 hK15 => ?_)
        refine c_reg ?_ -- region 8 progm.go:33
        refine wl (ro_fieldAddr (k := 3) rfl fo_151_3) ?_
        refine wl (ro_loadB rfl sc_53 (hY) (rfl)) ?_
        refine wl (ro_fieldAddr (k := 4) rfl fo_151_4) ?_
        refine wl (ro_loadB rfl sc_3 (hY) (rfl)) ?_
        refine wl_call rfl en_35 (Refused35 (er := e6.1) (p := e6.2)) ?_
        rintro _ w14 ⟨rfl, F14⟩
        replace hF := hF.thenDrew.thenN F14
        replace hB := F14.blkN hB
        replace hP := F14.blkN hP
        replace hM := F14.blkN hM
        replace hQ := F14.blkN hQ
        replace hR := F14.blkN hR
        replace hT := F14.blkN hT
        replace hX := F14.blkN hX
        replace hY := F14.blkN hY
        refine wl_puta rfl rfl ((fdc_cells e6.1 e6.2 false nocaps)) sz_57 (rfl) hR ((by simp)) (rfl) (fun w15 hR F15 => ?_)
        replace hF := hF.thenDrew.thenO F15 (by first | exact .inr (by omega) | exact .inl rfl | exact .inl (by assumption))
        replace hB := F15.blkO hB (by omega)
        replace hP := F15.blkO hP (by omega)
        replace hM := F15.blkO hM (by omega)
        replace hQ := F15.blkO hQ (by omega)
        replace hT := F15.blkO hT (by omega)
        replace hX := F15.blkO hX (by omega)
        replace hY := F15.blkO hY (by omega)
        refine wl_nil (x_then (hK15 _ _ ?_))
        clear hK15 K15
        refine c_ret (x_thenR ?_)
        refine bq_ret (res1 Tryz.results52 (rv_c rfl ag_57 (hR) rfl)) ?_
        unfold engc; rw [hE]; exact ⟨rfl, ⟨_, _, _, d, h, by omega, by omega, by omega, by omega, hB, hP, hM, hQ⟩, hF⟩
      · skip
        have hCP := (coreT_ok hCT).1
        rw [hPT] at hCP
        cases hCP
        rw [hCT] at hE
        refine c_reg ?_ -- region 6 progm.go:31
        refine wl (ro_move rfl) ?_
        refine wl (ro_nilCheck rfl) ?_
        refine wl (ro_fieldAddr (k := 1) rfl fo_84_1) ?_
        refine wl (ro_loadB rfl sc_81 (hB) (rfl)) ?_
        refine wl (ro_move rfl) ?_
        refine wl_call rfl en_67 (Core67 hM hQ d2 (by omega) (by omega) hpm) ?_
        rintro v w4 ⟨hEV, hM, hQ, F4⟩
        replace hF := hF.transG F4 (by intro k hk h; simp only [one, two, none', mset] at h ⊢ <;> omega)
        replace hB := F4.blkF hB (by intro h; simp only [one, two, none', mset] at h <;> omega)
        replace hP := F4.blkF hP (by intro h; simp only [one, two, none', mset] at h <;> omega)
        replace hR := F4.blkF hR (by intro h; simp only [one, two, none', mset] at h <;> omega)
        replace hT := F4.blkF hT (by intro h; simp only [one, two, none', mset] at h <;> omega)
        replace hX := F4.blkF hX (by intro h; simp only [one, two, none', mset] at h <;> omega)
        rw [hCT] at hEV
        obtain ⟨x0, x1, x2, rfl, hx⟩ := hEV
        refine wl_new (ze_151) (fun yb w16 hbyb hY F16 => ?_)
        have hbsyb := Nat.le_trans hF.size hbyb
        have hneE.ebyb : E.eb < yb := Nat.lt_of_lt_of_le hB.lt hbyb
        have hneE.pbyb : E.pb < yb := Nat.lt_of_lt_of_le hP.lt hbyb
        have hneE.mbyb : E.mb < yb := Nat.lt_of_lt_of_le hM.lt hbyb
        have hneE.qbyb : E.qb < yb := Nat.lt_of_lt_of_le hQ.lt hbyb
        have hnerbyb : rb < yb := Nat.lt_of_lt_of_le hR.lt hbyb
        have hnenbyb : nb < yb := Nat.lt_of_lt_of_le hT.lt hbyb
        have hnetbyb : tb < yb := Nat.lt_of_lt_of_le hX.lt hbyb
        replace hF := hF.thenDrew.thenN F16
        replace hB := F16.blkN hB
        replace hP := F16.blkN hP
        replace hM := F16.blkN hM
        replace hQ := F16.blkN hQ
        replace hR := F16.blkN hR
        replace hT := F16.blkN hT
        replace hX := F16.blkN hX
        refine wl_puta rfl rfl (hx) sz_151 (rfl) hY ((by simp)) (rfl) (fun w17 hY F17 => ?_)
        replace hF := hF.thenDrew.thenO F17 (by first | exact .inr (by omega) | exact .inl rfl | exact .inl (by assumption))
        replace hB := F17.blkO hB (by omega)
        replace hP := F17.blkO hP (by omega)
        replace hM := F17.blkO hM (by omega)
        replace hQ := F17.blkO hQ (by omega)
        replace hR := F17.blkO hR (by omega)
        replace hT := F17.blkO hT (by omega)
        replace hX := F17.blkO hX (by omega)
        refine wl_nil (x_then (hK12 _ _ ?_))
        clear hK12 K12
        refine c_seq (fun K16 hK16 => ?_)
        refine c_seq (fun K17 hK17 => ?_)
        refine c_reg ?_ -- region 7 progm.go:32
        refine wl (ro_fieldAddr (k := 3) rfl fo_151_3) ?_
        refine wl (ro_loadB rfl sc_53 (hY) (rfl)) ?_
        refine wl (ro_cmp rfl rfl rfl) ?_
        refine wl_nil (x_then (hK17 _ _ ?_))
        clear hK17 K17
        refine wc_condF rfl ?_
        refine c_skip (x_then (hK16 _ _ ?_))
        clear hK16 K16
        refine forget [(2, _), (3, _), (8, _), (9, _)] ⟨rfl, rfl, rfl, rfl, trivial⟩ (fun e => ?_)
        refine c_seq (fun K18 hK18 => ?_)
        refine c_reg ?_ -- region 9 progm.go:35
        refine wl (ro_loadAggB rfl ag_151 (hX) (rfl) (rfl)) ?_
        refine wl (ro_move rfl) ?_
        refine wl (ro_move rfl) ?_
        refine wl_call rfl en_68 (Leftmost68 q.2 hle hAR hT hroot hw3 hi) ?_
        rintro _ w18 ⟨rfl, F18⟩
        replace hF := hF.thenDrew.thenN F18
        replace hB := F18.blkN hB
        replace hP := F18.blkN hP
        replace hM := F18.blkN hM
        replace hQ := F18.blkN hQ
        replace hR := F18.blkN hR
        replace hT := F18.blkN hT
        replace hX := F18.blkN hX
        replace hY := F18.blkN hY
        refine wl_puta rfl rfl ((fdc_cells 0 0 _ _)) sz_57 (rfl) hR ((by simp)) (rfl) (fun w19 hR F19 => ?_)
        replace hF := hF.thenDrew.thenO F19 (by first | exact .inr (by omega) | exact .inl rfl | exact .inl (by assumption))
        replace hB := F19.blkO hB (by omega)
        replace hP := F19.blkO hP (by omega)
        replace hM := F19.blkO hM (by omega)
        replace hQ := F19.blkO hQ (by omega)
        replace hT := F19.blkO hT (by omega)
        replace hX := F19.blkO hX (by omega)
        replace hY := F19.blkO hY (by omega)
        refine wl_nil (x_then (hK18 _ _ ?_))
        clear hK18 K18
        refine c_ret ?_
        refine bq_ret (res1 Tryz.results52 (rv_c rfl ag_57 (hR) rfl)) ?_
        unfold engc; rw [hE]; exact ⟨rfl, ⟨_, _, _, d, h, by omega, by omega, by omega, by omega, hB, hP, hM, hQ⟩, hF⟩

theorem Match38 {w : World} {E : MB} {n i : Nat} {p s : List UInt8} (D : MBo E) (V : MEV w.heap E n) (hn : n < 1000000000000000) (hpm : p.length ≤ 9223372036854775807) (hsm : s.length ≤ 9223372036854775807) (hi : i ≤ s.length) :
    Ret Tryz.prog 38 [ptr E.eb, S p, S s, i64c i] w (fun v w' => v = .agg (engc p s i).toArray ∧ MEV w'.heap E (n + 2) ∧ Fram (mset E) w w') := by
  have hF : Fram (mset E) w w := Fram.refl _ _
  have D' := D
  obtain ⟨d1, d2, d3⟩ := D
  have hms : mset E E.eb := .inl rfl
  obtain ⟨a, b, c, d, h, h1, h2, h3, h4, hB, hP, hM, hQ⟩ := V
  have b1 := hB.lt
  have b2 := hP.lt
  have b3 := hM.lt
  have b4 := hQ.lt
  refine ret_of Tryz.func38 rfl Tryz.ntmps38 rfl ?_
  refine c_seq (fun K1 hK1 => ?_)
  refine c_reg ?_ -- region 0 progm.go:38
  refine wl_new (ze_57) (fun rb w1 hbrb hR F1 => ?_)
  have hbsrb := Nat.le_trans hF.size hbrb
  have hneE.ebrb : E.eb < rb := Nat.lt_of_lt_of_le hB.lt hbrb
  have hneE.pbrb : E.pb < rb := Nat.lt_of_lt_of_le hP.lt hbrb
  have hneE.mbrb : E.mb < rb := Nat.lt_of_lt_of_le hM.lt hbrb
  have hneE.qbrb : E.qb < rb := Nat.lt_of_lt_of_le hQ.lt hbrb
  replace hF := hF.thenDrew.thenN F1
  replace hB := F1.blkN hB
  replace hP := F1.blkN hP
  replace hM := F1.blkN hM
  replace hQ := F1.blkN hQ
  refine wl_nil (x_then (hK1 _ _ ?_))
  clear hK1 K1
  refine forget [(0, _), (1, _), (2, _), (3, _), (8, _)] ⟨rfl, rfl, rfl, rfl, rfl, trivial⟩ (fun e => ?_)
  refine c_seq (fun K2 hK2 => ?_)
  refine c_reg ?_ -- region 1 progm.go:39
  refine wl (ro_move rfl) ?_
  refine wl (ro_nilCheck rfl) ?_
  refine wl (ro_fieldAddr (k := 2) rfl fo_84_2) ?_
  refine wl (ro_loadB rfl sc_3 (hB) (rfl)) ?_
  refine wl (ro_arith rfl rfl rfl (Go.IntWalk.i64_in _ (by omega))) ?_
  refine wl (ro_nilCheck rfl) ?_
  refine wl (ro_fieldAddr (k := 2) rfl fo_84_2) ?_
  refine wl_put rfl rfl rfl sz_3 hB ((by simp)) (rfl) (fun w2 hB F2 => ?_)
  replace hF := hF.thenDrew.thenO F2 (by first | exact .inr (by omega) | exact .inl rfl | exact .inl (by assumption))
  replace hP := F2.blkO hP (by omega)
  replace hM := F2.blkO hM (by omega)
  replace hQ := F2.blkO hQ (by omega)
  replace hR := F2.blkO hR (by omega)
  refine wl_nil (x_then (hK2 _ _ ?_))
  clear hK2 K2
  refine forget [(0, _), (1, _), (2, _), (3, _), (8, _)] ⟨rfl, rfl, rfl, rfl, rfl, trivial⟩ (fun e => ?_)
  refine c_seq (fun K3 hK3 => ?_)
  have hcall := search52 (p := p) (s := s) D' ⟨a, b, c, d + 1, h, (by omega : a ≤ n + 1), by omega, by omega, by omega, hB, hP, hM, hQ⟩ (by omega) hpm hsm hi
  obtain ⟨e5, p5, ok5, c5, h5⟩ := engc_form p s i
  rw [h5] at hcall
  refine c_reg ?_ -- region 2 progm.go:40
  refine wl (ro_move rfl) ?_
  refine wl (ro_move rfl) ?_
  refine wl (ro_move rfl) ?_
  refine wl (ro_move rfl) ?_
  refine wl_call rfl en_52 (hcall) ?_
  rintro _ w3 ⟨rfl, V3, F3⟩
  replace hR := F3.blkF hR (by intro h; simp only [mset] at h; omega)
  replace hF := hF.transG F3 (fun k _ h => h)
  have hrb : ∀ k, mset E k → k ≠ rb := by intro k hk; simp only [mset] at hk; omega
  clear hB hP hM hQ
  refine wl_puta rfl rfl ((fdc_cells e5 p5 ok5 c5)) sz_57 (rfl) hR ((by simp)) (rfl) (fun w3 hR F3 => ?_)
  replace hF := hF.thenDrew.thenO F3 (by first | exact .inr (by omega) | exact .inl rfl | exact .inl (by assumption))
  replace V3 := V3.fram F3 (fun k hk h ↦ hrb k hk h)
  refine wl_nil (x_then (hK3 _ _ ?_))
  clear hK3 K3
  refine c_ret ?_
  refine bq_ret (res1 Tryz.results38 (rv_c rfl ag_57 (hR) rfl)) ?_
  rw [h5]; exact ⟨rfl, V3, hF⟩

theorem New13 {w : World} : Ret Tryz.prog 13 [] w (fun v w' => ∃ E : MB, v = ptr E.eb ∧ w.heap.size ≤ E.pb ∧ MBo E ∧ MEV w'.heap E 0 ∧ Fram none' w w') := by
  have hF : Fram none' w w := Fram.refl _ _
  refine ret_of Tryz.func13 rfl Tryz.ntmps13 rfl ?_
  refine c_seq (fun K1 hK1 => ?_)
  refine c_reg ?_ -- region 0 progm.go:17
  refine wl (ro_assign rfl) ?_
  refine wl_nil (x_then (hK1 _ _ ?_))
  clear hK1 K1
  refine forget [] trivial (fun e => ?_)
  refine c_seq (fun K2 hK2 => ?_)
  refine c_reg ?_ -- region 1 progm.go:18
  refine wl_call rfl en_33 (New33) ?_
  rintro _ w1 ⟨pb, rfl, hpb, hP, F1⟩
  replace hF := hF.transG F1 (by intro k hk h; simp only [one, two, none'] at h ⊢ <;> omega)
  have lp := hP.lt
  refine wl (ro_assign rfl) ?_
  refine wl_nil (x_then (hK2 _ _ ?_))
  clear hK2 K2
  refine forget [(1, _)] ⟨rfl, trivial⟩ (fun e => ?_)
  refine c_seq (fun K3 hK3 => ?_)
  refine c_reg ?_ -- region 2 progm.go:19
  refine wl_call rfl en_34 (New34) ?_
  rintro _ w2 ⟨mb, qb, rfl, hqb, hqm, hM, hQ, F2⟩
  replace hF := hF.transG F2 (by intro k hk h; simp only [one, two, none'] at h ⊢ <;> omega)
  replace hP := F2.blkF hP (by intro h; simp only [one, two, none'] at h <;> omega)
  have lm := hM.lt
  refine wl (ro_assign rfl) ?_
  refine wl_nil (x_then (hK3 _ _ ?_))
  clear hK3 K3
  refine forget [(1, _), (2, _)] ⟨rfl, rfl, trivial⟩ (fun e => ?_)
  refine c_seq (fun K4 hK4 => ?_)
  refine c_reg ?_ -- region 3 progm.go:20
  refine wl (ro_move rfl) ?_
  refine wl (ro_move rfl) ?_
  refine wl (ro_build rfl bld_84_0_1) ?_
  refine wl_box (cs := [ptr pb, ptr mb, i64c 0, i64c 0]) rfl rfl (fun eb w1 hbeb hB F1 => ?_)
  have hbseb := Nat.le_trans hF.size hbeb
  have hnepbeb : pb < eb := Nat.lt_of_lt_of_le hP.lt hbeb
  have hnembeb : mb < eb := Nat.lt_of_lt_of_le hM.lt hbeb
  have hneqbeb : qb < eb := Nat.lt_of_lt_of_le hQ.lt hbeb
  replace hF := hF.thenDrew.thenN F1
  replace hP := F1.blkN hP
  replace hM := F1.blkN hM
  replace hQ := F1.blkN hQ
  refine wl (ro_assign rfl) ?_
  refine wl_nil (x_then (hK4 _ _ ?_))
  clear hK4 K4
  refine c_ret ?_
  refine bp_ret Tryz.results13 rfl ?_
  exact ⟨⟨eb, pb, mb, qb⟩, rfl, hpb, ⟨(by show pb < qb; omega), hqm, (by show mb < eb; omega)⟩, ⟨0, 0, 0, 0, 0, Nat.le_refl _, Nat.le_refl _, Nat.le_refl _, Nat.le_refl _, hB, hP, hM, hQ⟩, hF⟩

end Go.Proofs.Qxb6500567aGreat
