import Derived.Test.Qxb6500569aGreatUb
/- The real reader: term, goal. -/
namespace Go.Proofs.Qxb6500569aGreat
set_option linter.unusedVariables false
set_option linter.unusedSimpArgs false

theorem pk_drop {s : List UInt8} {p : Nat} {c : UInt8} (h : pk (s.drop p) = c) (hc : c ≠ 0) : p < s.length ∧ s.drop p = c :: s.drop (p + 1) := by
  obtain ⟨h1, h2⟩ := pk_lt h hc
  refine ⟨h1, ?_⟩
  rw [List.drop_eq_getElem_cons h1]
  congr 1
  rw [List.getElem?_eq_getElem h1] at h2
  exact Option.some.inj h2

theorem idx_eq {vs : List UInt8} {c : UInt8} (h : c ∉ vs) : vs.idxOf c = vs.length := List.idxOf_eq_length h

theorem term124 {rb mb : Nat} {s : List UInt8} (hs : s.length ≤ 100) {p : Nat} (HC : CSpec rb mb s p) : TSpec rb mb s p := by
  intro w vs h hp hvs
  have hrb := h.blk.lt
  have hmb := h.map.lt
  obtain ⟨c, hc⟩ : ∃ c, c = pk (s.drop p) := ⟨_, rfl⟩
  refine retp_of Tryz.func124 rfl Tryz.ntmps124 rfl ?_
  refine c_seq (fun K1 hK1 => ?_)
  refine c_reg ?_ -- region 0 reader.go:155
  refine wl (ro_assign rfl) ?_
  refine wl_nil (x_then (hK1 _ _ ?_))
  clear hK1 K1
  refine forget [(0, _)] ⟨rfl, trivial⟩ (fun e => ?_)
  refine c_seq (fun K2 hK2 => ?_)
  refine c_reg ?_ -- region 1 reader.go:156
  refine wl (ro_move rfl) ?_
  refine wl_call rfl en_119 (peek119 h (by omega) (by omega)) ?_
  rintro _ w1 ⟨rfl, F1⟩
  have h1 := h.none F1
  have hB := h1.blk
  have F01 : Fram (RF rb mb) w w1 := F1.mono (fun _ _ h => h.elim)
  rw [← hc]
  refine wl (ro_assign rfl) ?_
  refine wl_nil (x_then (hK2 _ _ ?_))
  clear hK2 K2
  refine c_seq (fun K3 hK3 => ?_)
  refine c_seq (fun K4 hK4 => ?_)
  rcases (by omega : c.toNat < 65 ∨ 90 < c.toNat ∨ (65 ≤ c.toNat ∧ c.toNat ≤ 90)) with hlo | hlo | hlo
  · skip
    have hX : Px 0 (s.drop p) vs = Px 1 (s.drop p) vs := by rw [Px0, ← hc, if_neg (by simp [isUp]; omega)]
    refine c_reg ?_ -- region 2 reader.go:157
    refine wl (ro_move rfl) ?_
    refine wl (ro_cmp (r := true) rfl rfl (by simp; omega)) ?_
    refine wl (ro_move rfl) ?_
    refine wlg_no rfl ?_
    refine wlg_no rfl ?_
    refine wl (ro_pick rfl rfl rfl) ?_
    refine wl_nil (x_then (hK4 _ _ ?_))
    clear hK4 K4
    refine wc_condT rfl ?_
    refine c_seq (fun K5 hK5 => ?_)
    refine c_reg ?_ -- region 3 reader.go:158
    refine wl (ro_move rfl) ?_
    refine wl_callP rfl en_116 (HC w1 vs h1 hp hvs) (fun pv w9 hE => bpp_pan (P := Tryz.prog) (fn := Tryz.f124) (⟨by rw [hX]; exact hE.1, hE.2.after F01⟩)) ?_
    rintro tv w2 ⟨r, i, q, hr, hT, hic, hit, hiv, h2, hq, hql, hpq, hvq, hiB, F2⟩
    have hsz1 := F1.size
    refine wl (ro_mkIface rfl (by kernel_rfl)) ?_
    refine wl (ro_assign rfl) ?_
    refine wl_nil (x_then (hK5 _ _ ?_))
    clear hK5 K5
    refine c_ret (x_thenR ?_)
    refine bpp_ret Tryz.results124 rfl ?_
    exact ⟨r, i, q, by rw [hX]; exact hr, hT, hic, hit, hiv, h2, hq, hql, hpq, hvq, fun b hb => by have := hiB b hb; omega, F01.trans F2⟩
  · skip
    have hX : Px 0 (s.drop p) vs = Px 1 (s.drop p) vs := by rw [Px0, ← hc, if_neg (by simp [isUp]; omega)]
    refine c_reg ?_ -- region 2 reader.go:157
    refine wl (ro_move rfl) ?_
    refine wl (ro_cmp (r := false) rfl rfl (by simp; omega)) ?_
    refine wl (ro_move rfl) ?_
    refine wlg_yes rfl (ro_move rfl) ?_
    refine wlg_yes rfl (ro_cmp (r := true) rfl rfl (by simp; omega)) ?_
    refine wl (ro_pick rfl rfl rfl) ?_
    refine wl_nil (x_then (hK4 _ _ ?_))
    clear hK4 K4
    refine wc_condT rfl ?_
    refine c_seq (fun K6 hK6 => ?_)
    refine c_reg ?_ -- region 3 reader.go:158
    refine wl (ro_move rfl) ?_
    refine wl_callP rfl en_116 (HC w1 vs h1 hp hvs) (fun pv w9 hE => bpp_pan (P := Tryz.prog) (fn := Tryz.f124) (⟨by rw [hX]; exact hE.1, hE.2.after F01⟩)) ?_
    rintro tv w2 ⟨r, i, q, hr, hT, hic, hit, hiv, h2, hq, hql, hpq, hvq, hiB, F2⟩
    have hsz1 := F1.size
    refine wl (ro_mkIface rfl (by kernel_rfl)) ?_
    refine wl (ro_assign rfl) ?_
    refine wl_nil (x_then (hK6 _ _ ?_))
    clear hK6 K6
    refine c_ret (x_thenR ?_)
    refine bpp_ret Tryz.results124 rfl ?_
    exact ⟨r, i, q, by rw [hX]; exact hr, hT, hic, hit, hiv, h2, hq, hql, hpq, hvq, fun b hb => by have := hiB b hb; omega, F01.trans F2⟩
  · skip
    refine c_reg ?_ -- region 2 reader.go:157
    refine wl (ro_move rfl) ?_
    refine wl (ro_cmp (r := false) rfl rfl (by simp; omega)) ?_
    refine wl (ro_move rfl) ?_
    refine wlg_yes rfl (ro_move rfl) ?_
    refine wlg_yes rfl (ro_cmp (r := false) rfl rfl (by simp; omega)) ?_
    refine wl (ro_pick rfl rfl rfl) ?_
    refine wl_nil (x_then (hK4 _ _ ?_))
    clear hK4 K4
    refine wc_condF rfl ?_
    refine c_skip (x_then (hK3 _ _ ?_))
    clear hK3 K3
    refine forget [(0, _), (3, _)] ⟨rfl, rfl, trivial⟩ (fun e => ?_)
    refine c_seq (fun K7 hK7 => ?_)
    have hup : isUp c = true := by simp [isUp]; omega
    obtain ⟨hpl, hdp⟩ := pk_drop (c := c) hc.symm (isUp_ne hup)
    have hX : Px 0 (s.drop p) vs = some ⟨[UInt8.ofNat (65 + vs.idxOf c)], 0, s.drop (p + 1), vAdd vs c⟩ := by rw [Px0, ← hc, hup, drop1]; rfl
    refine c_reg ?_ -- region 4 reader.go:160
    refine wl (ro_move rfl) ?_
    refine wl (ro_nilCheck rfl) ?_
    refine wl (ro_fieldAddr (k := 1) rfl fo_152_1) ?_
    refine wl (ro_loadB rfl sc_3 (by assumption) rfl) ?_
    refine wl (ro_arith rfl rfl rfl (Go.IntWalk.i64_in _ (by omega))) ?_
    refine wl (ro_nilCheck rfl) ?_
    refine wl (ro_fieldAddr (k := 1) rfl fo_152_1) ?_
    refine wls (so_storeB rfl rfl rfl sz_3 (hB) (by simp)) ?_
    obtain ⟨h2, F2⟩ := h1.move (p + 1)
    refine gen2 (A := fun w2 => RD w2.heap rb mb s (p + 1) vs) (B := fun w2 => Fram (RF rb mb) w w2) (C := fun w2 => WL _ _ _ _ _ w2) h2 (F01.trans F2) ?_
    clear h2 F2 h1 hB F1 F01
    intro w2 h2 F02
    have hB2 := h2.blk
    refine wl_nil (x_then (hK7 _ _ ?_))
    clear hK7 K7
    refine forget [(0, _), (3, _)] ⟨rfl, rfl, trivial⟩ (fun e => ?_)
    refine c_seq (fun K8 hK8 => ?_)
    by_cases hm : c ∈ vs
    · skip
      have hlk : Value.tuple #[(lookV (vml vs) c).getD (.int .i64 0), .bool (lookV (vml vs) c).isSome] = .tuple #[i64c (vs.idxOf c), .bool true] := by simp [lookV, look_vml, hm]
      have hil : vs.idxOf c < vs.length := List.idxOf_lt_length_iff.2 hm
      have hva : vAdd vs c = vs := by unfold vAdd; rw [if_pos hm]
      refine c_reg ?_ -- region 5 reader.go:161
      refine wl (ro_move rfl) ?_
      refine wl (ro_nilCheck rfl) ?_
      refine wl (ro_fieldAddr (k := 2) rfl fo_152_2) ?_
      refine wl (ro_loadB rfl sc_150 (hB2) rfl) ?_
      refine wl (ro_move rfl) ?_
      refine wl ((show RO _ _ _ _ _ (.tuple #[i64c (vs.idxOf c), .bool true]) from hlk ▸ ro_lookup2 (kv := u8c) (a := c) (l := vml vs) keyU8 rfl rfl mp_150 zr_3 h2.map)) ?_
      refine wl (ro_move rfl) ?_
      refine wl (ro_extract rfl rfl) ?_
      refine wl (ro_extract rfl rfl) ?_
      refine wl (ro_assign rfl) ?_
      refine wl (ro_assign rfl) ?_
      refine wl_nil (x_then (hK8 _ _ ?_))
      clear hK8 K8
      refine c_seq (fun K9 hK9 => ?_)
      refine c_seq (fun K10 hK10 => ?_)
      refine c_reg ?_ -- region 6 reader.go:162
      refine wl (ro_move rfl) ?_
      refine wl (ro_not rfl) ?_
      refine wl_nil (x_then (hK10 _ _ ?_))
      clear hK10 K10
      refine wc_condF rfl ?_
      refine c_skip (x_then (hK9 _ _ ?_))
      clear hK9 K9
      refine forget [(3, _), (4, _)] ⟨rfl, rfl, trivial⟩ (fun e => ?_)
      refine c_seq (fun K11 hK11 => ?_)
      refine c_reg ?_ -- region 9 reader.go:166
      refine wl (ro_move rfl) ?_
      refine wl (ro_move rfl) ?_
      refine wl (ro_build rfl bld_214_0_1) ?_
      refine wl (ro_mkIface rfl (by kernel_rfl)) ?_
      refine wl (ro_assign rfl) ?_
      refine wl_nil (x_then (hK11 _ _ ?_))
      clear hK11 K11
      refine c_ret ?_
      refine bpp_ret Tryz.results124 rfl ?_
      refine ⟨_, ⟨[UInt8.ofNat (65 + vs.idxOf c)], [c], vs.idxOf c + 1, []⟩, p + 1, hX, .inl ⟨c, vs.idxOf c, rfl, by omega, rfl⟩, rfl, hdp, ?_, ?_, rfl, by omega, by omega, ?_, by simp, F02⟩
      · simp only; rw [hva]; omega
      · simp only; rw [hva]; exact h2
      · simp only; rw [hva]; omega
    · skip
      have hlk : Value.tuple #[(lookV (vml vs) c).getD (.int .i64 0), .bool (lookV (vml vs) c).isSome] = .tuple #[i64c 0, .bool false] := by simp [lookV, look_vml, hm]; rfl
      have hil := idx_eq hm
      have hva : vAdd vs c = vs ++ [c] := by unfold vAdd; rw [if_neg hm]
      have hln : Value.int .i64 ((vml vs).length : Int) = i64c vs.length := by simp [vml]; rfl
      refine c_reg ?_ -- region 5 reader.go:161
      refine wl (ro_move rfl) ?_
      refine wl (ro_nilCheck rfl) ?_
      refine wl (ro_fieldAddr (k := 2) rfl fo_152_2) ?_
      refine wl (ro_loadB rfl sc_150 (hB2) rfl) ?_
      refine wl (ro_move rfl) ?_
      refine wl ((show RO _ _ _ _ _ (.tuple #[i64c 0, .bool false]) from hlk ▸ ro_lookup2 (kv := u8c) (a := c) (l := vml vs) keyU8 rfl rfl mp_150 zr_3 h2.map)) ?_
      refine wl (ro_move rfl) ?_
      refine wl (ro_extract rfl rfl) ?_
      refine wl (ro_extract rfl rfl) ?_
      refine wl (ro_assign rfl) ?_
      refine wl (ro_assign rfl) ?_
      refine wl_nil (x_then (hK8 _ _ ?_))
      clear hK8 K8
      refine c_seq (fun K12 hK12 => ?_)
      refine c_seq (fun K13 hK13 => ?_)
      refine c_reg ?_ -- region 6 reader.go:162
      refine wl (ro_move rfl) ?_
      refine wl (ro_not rfl) ?_
      refine wl_nil (x_then (hK13 _ _ ?_))
      clear hK13 K13
      refine wc_condT rfl ?_
      refine c_seq (fun K14 hK14 => ?_)
      refine c_reg ?_ -- region 7 reader.go:163
      refine wl (ro_move rfl) ?_
      refine wl (ro_nilCheck rfl) ?_
      refine wl (ro_fieldAddr (k := 2) rfl fo_152_2) ?_
      refine wl (ro_loadB rfl sc_150 (hB2) rfl) ?_
      refine wl ((show RO _ _ _ _ _ (i64c vs.length) from hln ▸ ro_lenM (kv := u8c) (l := vml vs) rfl mp_150 h2.map)) ?_
      refine wl (ro_assign rfl) ?_
      refine wl_nil (x_then (hK14 _ _ ?_))
      clear hK14 K14
      refine c_reg ?_ -- region 8 reader.go:164
      refine wl (ro_move rfl) ?_
      refine wl (ro_nilCheck rfl) ?_
      refine wl (ro_fieldAddr (k := 2) rfl fo_152_2) ?_
      refine wl (ro_loadB rfl sc_150 (hB2) rfl) ?_
      refine wl (ro_move rfl) ?_
      refine wl (ro_move rfl) ?_
      refine wl_mapUp (kv := u8c) (a := c) (v := i64c vs.length) (l := vml vs) keyU8 rfl rfl rfl mp_150 h2.map ?_
      intro w3 hM3 F3
      rw [vml_add vs c hm] at hM3
      have hB3 := hB2.fram F3 (fun he => h2.map.blk_ne hB2 he.symm)
      refine wl_nil (x_then (hK12 _ _ ?_))
      clear hK12 K12
      refine forget [(3, _), (4, _)] ⟨rfl, rfl, trivial⟩ (fun e => ?_)
      refine c_seq (fun K15 hK15 => ?_)
      refine c_reg ?_ -- region 9 reader.go:166
      refine wl (ro_move rfl) ?_
      refine wl (ro_move rfl) ?_
      refine wl (ro_build rfl bld_214_0_1) ?_
      refine wl (ro_mkIface rfl (by kernel_rfl)) ?_
      refine wl (ro_assign rfl) ?_
      refine wl_nil (x_then (hK15 _ _ ?_))
      clear hK15 K15
      refine c_ret ?_
      refine bpp_ret Tryz.results124 rfl ?_
      refine ⟨_, ⟨[UInt8.ofNat (65 + vs.idxOf c)], [c], vs.idxOf c + 1, []⟩, p + 1, hX, .inl ⟨c, vs.idxOf c, by rw [hil]; rfl, by omega, rfl⟩, rfl, hdp, ?_, ?_, rfl, by omega, by omega, ?_, by simp, F02.trans (F3.mono (fun k _ hx => .inr hx))⟩
      · simp only; rw [hva]; simp; omega
      · simp only; rw [hva]; exact ⟨hB3, hM3⟩
      · simp only; rw [hva]; simp; omega

theorem rd_all {rb mb : Nat} {s : List UInt8} (hs : s.length ≤ 100) : ∀ (n p : Nat), s.length - p ≤ n → CSpec rb mb s p ∧ TSpec rb mb s p
  | 0, p, h => by
    have hc : CSpec rb mb s p := call116 (by omega) (fun p' hp w vs h1 h2 h3 => by omega)
    exact ⟨hc, term124 hs hc⟩
  | n + 1, p, h => by
    have hc : CSpec rb mb s p := call116 (by omega) (fun p' hp w vs h1 h2 h3 => (rd_all hs n p' (by omega)).2 w vs h1 h2 h3)
    exact ⟨hc, term124 hs hc⟩

theorem callAll {rb mb : Nat} {s : List UInt8} (hs : s.length ≤ 100) (p : Nat) : CSpec rb mb s p := (rd_all hs (s.length - p) p (Nat.le_refl _)).1

/-- What the reading of a goal gives. -/
def GPost (rb mb : Nat) (s : List UInt8) (p : Nat) (vs : List UInt8) (w : World) (v : Value) (w' : World) : Prop :=
  ∃ r i q, pGoal (s.drop p) vs = some r ∧ TAt (s.length - p + 1) w'.heap v i ∧ i.code = r.code ∧ s.drop p = i.text ++ r.rest ∧ r.vs.length = max vs.length i.m ∧ RD w'.heap rb mb s q r.vs ∧ s.drop q = r.rest ∧ q ≤ s.length ∧ p < q ∧ r.vs.length ≤ q ∧ (∀ b ∈ i.B, w.heap.size ≤ b) ∧ Fram (RF rb mb) w w'

theorem goal118 {rb mb : Nat} {s : List UInt8} (hs : s.length ≤ 100) {p : Nat} {w : World} {vs : List UInt8} (h : RD w.heap rb mb s p vs) (hp : p ≤ s.length) (hvs : vs.length ≤ p) :
    RetP Tryz.prog 118 [ptr rb] w (GPost rb mb s p vs w) (fun pv w' => pGoal (s.drop p) vs = none ∧ EPan rb mb w pv w') := by
  refine retp_of Tryz.func118 rfl Tryz.ntmps118 rfl ?_
  refine c_seq (fun K1 hK1 => ?_)
  refine c_reg ?_ -- region 0 reader.go:116
  refine wl (ro_assign rfl) ?_
  refine wl_nil (x_then (hK1 _ _ ?_))
  clear hK1 K1
  refine forget [(0, _)] ⟨rfl, trivial⟩ (fun e => ?_)
  refine c_seq (fun K2 hK2 => ?_)
  refine c_reg ?_ -- region 1 reader.go:117
  refine wl (ro_assign rfl) ?_
  refine wl_nil (x_then (hK2 _ _ ?_))
  clear hK2 K2
  refine c_seq (fun K3 hK3 => ?_)
  refine c_seq (fun K4 hK4 => ?_)
  refine c_reg ?_ -- region 2 reader.go:118
  refine wl (ro_move rfl) ?_
  refine wl_call rfl en_119 (peek119 h (by omega) (by omega)) ?_
  rintro _ w1 ⟨rfl, F1⟩
  have h1 := h.none F1
  have hB := h1.blk
  have F01 : Fram (RF rb mb) w w1 := F1.mono (fun _ _ h => h.elim)
  refine wl (ro_cmp (r := decide (pk (s.drop p) = 33)) rfl rfl (congrArg some (beqb _ 33))) ?_
  refine wl_nil (x_then (hK4 _ _ ?_))
  clear hK4 K4
  refine wc_cond rfl (fun hc6 => ?_) (fun hc6 => ?_)
  · try simp only [decide_eq_true_eq, decide_eq_false_iff_not, Bool.not_eq_true', Bool.not_eq_false', Bool.not_eq_eq_eq_not, Bool.not_true, Bool.not_false, beq_iff_eq, bne_iff_ne, ne_eq, beq_eq_false_iff_ne, bne_eq_false_iff_eq, gt_iff_lt, ge_iff_le, Int.not_lt, Int.not_le] at hc6
    have h33 : pk (s.drop p) = 33 := by simpa using hc6
    obtain ⟨hpl, hdp⟩ := pk_drop h33 (by decide)
    have hX : pGoal (s.drop p) vs = some ⟨[33, 48], 0, s.drop (p + 1), vs⟩ := by unfold pGoal; rw [if_pos h33, drop1]
    refine c_seq (fun K5 hK5 => ?_)
    refine c_reg ?_ -- region 3 reader.go:119
    refine wl (ro_move rfl) ?_
    refine wl (ro_nilCheck rfl) ?_
    refine wl (ro_fieldAddr (k := 1) rfl fo_152_1) ?_
    refine wl (ro_loadB rfl sc_3 (by assumption) rfl) ?_
    refine wl (ro_arith rfl rfl rfl (Go.IntWalk.i64_in _ (by omega))) ?_
    refine wl (ro_nilCheck rfl) ?_
    refine wl (ro_fieldAddr (k := 1) rfl fo_152_1) ?_
    refine wls (so_storeB rfl rfl rfl sz_3 (hB) (by simp)) ?_
    obtain ⟨h2, F2⟩ := h1.move (p + 1)
    refine wl_nil (x_then (hK5 _ _ ?_))
    clear hK5 K5
    refine c_reg ?_ -- region 4 reader.go:120
    refine wl (ro_build rfl bld_220) ?_
    refine wl (ro_mkIface rfl (by kernel_rfl)) ?_
    refine wl (ro_assign rfl) ?_
    refine wl_nil (x_then (hK3 _ _ ?_))
    clear hK3 K3
    refine forget [(3, _)] ⟨rfl, trivial⟩ (fun e => ?_)
    refine c_seq (fun K6 hK6 => ?_)
    refine c_reg ?_ -- region 6 reader.go:124
    refine wl (ro_move rfl) ?_
    refine wl (ro_assign rfl) ?_
    refine wl_nil (x_then (hK6 _ _ ?_))
    clear hK6 K6
    refine c_ret ?_
    refine bpp_ret Tryz.results118 rfl ?_
    refine ⟨_, ⟨[33, 48], [33], 0, []⟩, p + 1, hX, .inr (.inl ⟨rfl, rfl⟩), rfl, hdp, by simp, h2, rfl, by omega, by omega, by simp only; omega, by simp, F01.trans F2⟩
  · try simp only [decide_eq_true_eq, decide_eq_false_iff_not, Bool.not_eq_true', Bool.not_eq_false', Bool.not_eq_eq_eq_not, Bool.not_true, Bool.not_false, beq_iff_eq, bne_iff_ne, ne_eq, beq_eq_false_iff_ne, bne_eq_false_iff_eq, gt_iff_lt, ge_iff_le, Int.not_lt, Int.not_le] at hc6
    have h33 : pk (s.drop p) ≠ 33 := by simpa using hc6
    have hX : pGoal (s.drop p) vs = Px 1 (s.drop p) vs := by unfold pGoal; rw [if_neg h33]
    have hsz1 := F1.size
    refine c_reg ?_ -- region 5 reader.go:122
    refine wl (ro_move rfl) ?_
    refine wl_callP rfl en_116 (callAll hs p w1 vs h1 hp hvs) (fun pv w9 hE => bpp_pan (P := Tryz.prog) (fn := Tryz.f118) (⟨by rw [hX]; exact hE.1, hE.2.after F01⟩)) ?_
    rintro tv w2 ⟨r, i, q, hr, hT, hic, hit, hiv, h2, hq, hql, hpq, hvq, hiB, F2⟩
    refine wl (ro_mkIface rfl (by kernel_rfl)) ?_
    refine wl (ro_assign rfl) ?_
    refine wl_nil (x_then (hK3 _ _ ?_))
    clear hK3 K3
    refine forget [(3, _)] ⟨rfl, trivial⟩ (fun e => ?_)
    refine c_seq (fun K7 hK7 => ?_)
    refine c_reg ?_ -- region 6 reader.go:124
    refine wl (ro_move rfl) ?_
    refine wl (ro_assign rfl) ?_
    refine wl_nil (x_then (hK7 _ _ ?_))
    clear hK7 K7
    refine c_ret ?_
    refine bpp_ret Tryz.results118 rfl ?_
    exact ⟨r, i, q, by rw [hX]; exact hr, hT, hic, hit, hiv, h2, hq, hql, hpq, hvq, fun b hb => by have := hiB b hb; omega, F01.trans F2⟩

end Go.Proofs.Qxb6500569aGreat
