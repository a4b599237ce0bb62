import Derived.Test.Qxb6500570aGreatGb
/- The real sheet: Set, New. -/
namespace Go.Proofs.Qxb6500570aGreat
set_option linter.unusedVariables false
set_option linter.unusedSimpArgs false

theorem CaB.lo {lo hi : Nat} {C : CB} (hb : CaB lo hi C) : lo ≤ C.G.g := by
  have hb1 := hb.1
  have h1 := hb1.1
  have h2 := hb1.2.2.2.1
  have h3 := hb1.2.2.2.2.1
  have h4 := hb1.2.2.2.2.2
  unfold EBo at h1
  omega
theorem Set59L {w : World} {k : Nat} {c : Int} {raw : List UInt8} (hr : 40 < raw.length) : Ret Tryz.prog 59 [ptr k, icv c, S raw] w (fun v w' => v = icv 1 ∧ w' = w) := by
  refine ret_of Tryz.func59 rfl Tryz.ntmps59 rfl ?_
  refine c_seq (fun K1 hK1 => ?_)
  refine c_reg ?_ -- region 0 calc.go:28
  refine wl (ro_assign rfl) ?_
  refine wl_nil (x_then (hK1 _ _ ?_))
  clear hK1 K1
  refine c_seq (fun K2 hK2 => ?_)
  refine c_seq (fun K3 hK3 => ?_)
  refine c_reg ?_ -- region 1 calc.go:29
  refine wl (ro_move rfl) ?_
  refine wl (ro_lenS rfl st_9) ?_
  refine wl (ro_cmp (r := true) rfl rfl (congrArg some (decide_eq_true (by show ((raw.length : Nat) : Int) > 40; omega)))) ?_
  refine wl_nil (x_then (hK3 _ _ ?_))
  clear hK3 K3
  refine wc_condT rfl ?_
  refine c_seq (fun K4 hK4 => ?_)
  refine c_reg ?_ -- region 2 calc.go:30
  refine wl (ro_assign rfl) ?_
  refine wl_nil (x_then (hK4 _ _ ?_))
  clear hK4 K4
  refine c_ret (x_thenR ?_)
  refine bp_ret Tryz.results59 rfl ?_
  exact ⟨rfl, rfl⟩
theorem Set59C {w : World} {k : Nat} {c : Int} {raw : List UInt8} (hr : raw.length ≤ 40) (hc : c < 0 ∨ 24 ≤ c) : Ret Tryz.prog 59 [ptr k, icv c, S raw] w (fun v w' => v = icv 9 ∧ w' = w) := by
  refine ret_of Tryz.func59 rfl Tryz.ntmps59 rfl ?_
  refine c_seq (fun K1 hK1 => ?_)
  refine c_reg ?_ -- region 0 calc.go:28
  refine wl (ro_assign rfl) ?_
  refine wl_nil (x_then (hK1 _ _ ?_))
  clear hK1 K1
  refine c_seq (fun K2 hK2 => ?_)
  refine c_seq (fun K3 hK3 => ?_)
  refine c_reg ?_ -- region 1 calc.go:29
  refine wl (ro_move rfl) ?_
  refine wl (ro_lenS rfl st_9) ?_
  refine wl (ro_cmp (r := false) rfl rfl (congrArg some (decide_eq_false (by show ¬ ((raw.length : Nat) : Int) > 40; omega)))) ?_
  refine wl_nil (x_then (hK3 _ _ ?_))
  clear hK3 K3
  refine wc_condF rfl ?_
  refine c_skip (x_then (hK2 _ _ ?_))
  clear hK2 K2
  refine c_seq (fun K4 hK4 => ?_)
  refine c_seq (fun K5 hK5 => ?_)
  refine c_reg ?_ -- region 3 calc.go:32
  refine wl (ro_move rfl) ?_
  refine wl (ro_cmp (r := decide (c < 0)) rfl rfl rfl) ?_
  refine wl_fork rfl (fun hg18 => ?_) (fun hg18 => ?_)
  · try simp only [decide_eq_true_eq, decide_eq_false_iff_not, Bool.not_eq_true', Bool.not_eq_false', Bool.not_eq_eq_eq_not, Bool.not_true, Bool.not_false, beq_iff_eq, bne_iff_ne, ne_eq, beq_eq_false_iff_ne, bne_eq_false_iff_eq, gt_iff_lt, ge_iff_le, Int.not_lt, Int.not_le] at hg18
    refine wlg_no rfl ?_
    refine wlg_no rfl ?_
    refine wl (ro_pick rfl rfl rfl) ?_
    refine wl_nil (x_then (hK5 _ _ ?_))
    clear hK5 K5
    refine wc_condT rfl ?_
    refine c_seq (fun K6 hK6 => ?_)
    refine c_reg ?_ -- region 4 calc.go:33
    refine wl (ro_assign rfl) ?_
    refine wl_nil (x_then (hK6 _ _ ?_))
    clear hK6 K6
    refine c_ret (x_thenR ?_)
    refine bp_ret Tryz.results59 rfl ?_
    exact ⟨rfl, rfl⟩
  · try simp only [decide_eq_true_eq, decide_eq_false_iff_not, Bool.not_eq_true', Bool.not_eq_false', Bool.not_eq_eq_eq_not, Bool.not_true, Bool.not_false, beq_iff_eq, bne_iff_ne, ne_eq, beq_eq_false_iff_ne, bne_eq_false_iff_eq, gt_iff_lt, ge_iff_le, Int.not_lt, Int.not_le] at hg18
    refine wlg_yes rfl (ro_move rfl) ?_
    refine wlg_yes rfl (ro_cmp (r := true) rfl rfl (congrArg some (decide_eq_true (by omega)))) ?_
    refine wl (ro_pick rfl rfl rfl) ?_
    refine wl_nil (x_then (hK5 _ _ ?_))
    clear hK5 K5
    refine wc_condT rfl ?_
    refine c_seq (fun K7 hK7 => ?_)
    refine c_reg ?_ -- region 4 calc.go:33
    refine wl (ro_assign rfl) ?_
    refine wl_nil (x_then (hK7 _ _ ?_))
    clear hK7 K7
    refine c_ret (x_thenR ?_)
    refine bp_ret Tryz.results59 rfl ?_
    exact ⟨rfl, rfl⟩
set_option maxHeartbeats 16000000 in
theorem Set59 {w : World} {lo hi c : Nat} {C : CB} {T : List (List UInt8)} {SL : List Vl} {raw : List UInt8} (hb : CaB lo hi C) (hhi : hi ≤ w.heap.size) (h : CaV w C T SL) (hc : c < 24) (hr : raw.length ≤ 40) :
    Ret Tryz.prog 59 [ptr C.k, i64c c, S raw] w (fun v w' => v = icv 0 ∧ (∃ SL', CaV w' C (T.set c raw) SL') ∧ Fram (rng lo hi) w w') := by
  have hF : Fram (rng lo hi) w w := Fram.refl _ _
  have hlo := hb.lo
  have hbb := hb
  obtain ⟨hb1, hb2', hb3, hb4, hb5, hb6, hb7, hb8⟩ := hb
  have hb2 := hb2'
  unfold GBo at hb2
  obtain ⟨hK, hR, hV, htl, hsl, h40, hlw, hev, hgr, L0, hsh⟩ := h
  have hm1 : rng lo hi C.r := ⟨by omega, by omega⟩
  have hr24 := rdsV_lt raw
  have hRf : (fun x => if x = c then rdsV raw else rdT' (tF T) x) = rdT' (tF (T.set c raw)) := by
    funext x
    show _ = rdsV (tF (T.set c raw) x)
    rw [tF_set (by omega)]
    by_cases e : x = c
    · rw [if_pos e, if_pos e]
    · rw [if_neg e, if_neg e]
  refine ret_of Tryz.func59 rfl Tryz.ntmps59 rfl ?_
  refine c_seq (fun K1 hK1 => ?_)
  refine c_reg ?_ -- region 0 calc.go:28
  refine wl (ro_assign rfl) ?_
  refine wl_nil (x_then (hK1 _ _ ?_))
  clear hK1 K1
  refine c_seq (fun K2 hK2 => ?_)
  refine c_seq (fun K3 hK3 => ?_)
  refine c_reg ?_ -- region 1 calc.go:29
  refine wl (ro_move rfl) ?_
  refine wl (ro_lenS rfl st_9) ?_
  refine wl (ro_cmp (r := false) rfl rfl (congrArg some (decide_eq_false (by show ¬ ((raw.length : Nat) : Int) > 40; omega)))) ?_
  refine wl_nil (x_then (hK3 _ _ ?_))
  clear hK3 K3
  refine wc_condF rfl ?_
  refine c_skip (x_then (hK2 _ _ ?_))
  clear hK2 K2
  refine c_seq (fun K4 hK4 => ?_)
  refine c_seq (fun K5 hK5 => ?_)
  refine c_reg ?_ -- region 3 calc.go:32
  refine wl (ro_move rfl) ?_
  refine wl (ro_cmp (r := false) rfl rfl (congrArg some (decide_eq_false (by omega)))) ?_
  refine wl (ro_move rfl) ?_
  refine wlg_yes rfl (ro_move rfl) ?_
  refine wlg_yes rfl (ro_cmp (r := false) rfl rfl (congrArg some (decide_eq_false (by omega)))) ?_
  refine wl (ro_pick rfl rfl rfl) ?_
  refine wl_nil (x_then (hK5 _ _ ?_))
  clear hK5 K5
  refine wc_condF rfl ?_
  refine c_skip (x_then (hK4 _ _ ?_))
  clear hK4 K4
  refine forget [(0, _), (1, _), (2, _)] ⟨rfl, rfl, rfl, trivial⟩ (fun e => ?_)
  refine c_seq (fun K6 hK6 => ?_)
  refine c_reg ?_ -- region 5 calc.go:35
  refine wl (ro_move rfl) ?_
  refine wl (ro_nilCheck rfl) ?_
  refine wl (ro_fieldAddr (k := 0) rfl fo_93_0) ?_
  refine wl (ro_loadB rfl sc_40 (by assumption) rfl) ?_
  refine wl (ro_move rfl) ?_
  refine wl_call rfl en_87 (Reads87 hb1 hev hr (by omega)) ?_
  rintro _ u1 ⟨rfl, hev, G1⟩
  replace hgr := hgr.far G1 (fun b hq hh => absurd hh.2 (by rcases hq with q | q | q | q | q <;> omega))
  have hsz1 := G1.size
  replace hF := hF.transG G1 (by intro k hk h; simp only [one, none', rng, swf, gall] at h ⊢ <;> omega)
  replace hK := G1.blkF hK (by intro h; simp only [one, none', rng, swf, gall] at h <;> omega)
  replace hR := G1.blkF hR (by intro h; simp only [one, none', rng, swf, gall] at h <;> omega)
  replace hV := G1.blkF hV (by intro h; simp only [one, none', rng, swf, gall] at h <;> omega)
  refine wl (ro_move rfl) ?_
  refine wl (ro_extract rfl rfl) ?_
  refine wl (ro_extract rfl rfl) ?_
  refine wl (ro_assign rfl) ?_
  refine wl (ro_assign rfl) ?_
  refine wl_nil (x_then (hK6 _ _ ?_))
  clear hK6 K6
  refine forget [(0, _), (1, _), (2, _), (7, _)] ⟨rfl, rfl, rfl, rfl, trivial⟩ (fun e => ?_)
  refine c_seq (fun K7 hK7 => ?_)
  refine c_reg ?_ -- region 6 calc.go:36
  refine wl (ro_move rfl) ?_
  refine wl (ro_nilCheck rfl) ?_
  refine wl (ro_fieldAddr (k := 1) rfl fo_93_1) ?_
  refine wl (ro_loadB rfl sc_42 (by assumption) rfl) ?_
  refine wl (ro_move rfl) ?_
  refine wl (ro_move rfl) ?_
  refine wl_call rfl en_88 (SetG88 hb2' hgr hc hr24) ?_
  rintro _ u2 ⟨rfl, hgr, G2⟩
  rw [hRf] at hgr
  replace hev := hev.far hb1 G2 (fun b q1 q2 hh => by rcases hh with q | q | q | q | q <;> omega)
  have hsz2 := G2.size
  replace hF := hF.transG G2 (by intro k hk h; simp only [one, none', rng, swf, gall] at h ⊢ <;> omega)
  replace hK := G2.blkF hK (by intro h; simp only [one, none', rng, swf, gall] at h <;> omega)
  replace hR := G2.blkF hR (by intro h; simp only [one, none', rng, swf, gall] at h <;> omega)
  replace hV := G2.blkF hV (by intro h; simp only [one, none', rng, swf, gall] at h <;> omega)
  obtain ⟨RL, BL, LL, NL, cy, tc, V, htr, hRR, hlv, hcy, hcb⟩ := hgr
  obtain ⟨hA, hQ, hBb, hLL, hN, k1, k2, k3, k4, k5, k6⟩ := V
  refine wl_nil (x_then (hK7 _ _ ?_))
  clear hK7 K7
  refine forget [(0, _), (1, _), (2, _)] ⟨rfl, rfl, rfl, trivial⟩ (fun e => ?_)
  refine c_seq (fun K8 hK8 => ?_)
  refine c_reg ?_ -- region 7 calc.go:37
  refine wl (ro_move rfl) ?_
  refine wl (ro_nilCheck rfl) ?_
  refine wl (ro_fieldAddr (k := 2) rfl fo_93_2) ?_
  refine wl (ro_loadB rfl sc_56 (by assumption) rfl) ?_
  refine wl (ro_move rfl) ?_
  refine wl (ro_move rfl) ?_
  refine wl (ro_indexAddr (et := 9) (k := 1) rfl rfl se_56 rfl (by omega)) ?_
  refine wl_put rfl rfl rfl sz_9 hR ((rw_fit stc_len (i := c) (j := 0) (m := 1) (by omega) (by omega) (by omega))) ((rw_put stc_len (i := c) (j := 0) (x := tF T c) (x' := raw) (tF_get (by omega)) (by omega) (by omega) rfl)) (fun w1 hR F1 => ?_)
  replace hF := hF.thenDrew.thenO F1 (by first | exact .inr (by omega) | exact .inl rfl | exact .inl (by assumption))
  replace hK := F1.blkO hK (by omega)
  replace hV := F1.blkO hV (by omega)
  replace hA := F1.blkO hA (by omega)
  replace hQ := F1.blkO hQ (by omega)
  replace hBb := F1.blkO hBb (by omega)
  replace hLL := F1.blkO hLL (by omega)
  replace hN := F1.blkO hN (by omega)
  replace hev := hev.far hb1 F1 (fun b q1 q2 hh ↦ absurd (show b = C.r from hh) (by omega))
  have hsz3 := (F1).size
  refine wl_nil (x_then (hK8 _ _ ?_))
  clear hK8 K8
  refine forget [(0, _), (1, _)] ⟨rfl, rfl, trivial⟩ (fun e => ?_)
  refine c_seq (fun K9 hK9 => ?_)
  refine c_reg ?_ -- region 8 calc.go:38
  refine wl (ro_move rfl) ?_
  refine wl_call rfl en_66 (Bit66 hc) ?_
  rintro _ _ ⟨rfl, rfl⟩
  have hbc := bit_lt hc
  refine wl (ro_assign rfl) ?_
  refine wl_nil (x_then (hK9 _ _ ?_))
  clear hK9 K9
  refine forget [(0, _), (1, _), (9, _)] ⟨rfl, rfl, rfl, trivial⟩ (fun e => ?_)
  refine c_seq (fun K10 hK10 => ?_)
  refine c_reg ?_ -- region 9 calc.go:39
  refine wl (ro_move rfl) ?_
  refine wl (ro_nilCheck rfl) ?_
  refine wl (ro_fieldAddr (k := 1) rfl fo_93_1) ?_
  refine wl (ro_loadB rfl sc_42 (by assumption) rfl) ?_
  refine wl (ro_move rfl) ?_
  refine wl_call rfl en_89 (Hang89 (R := rdT' (tF (T.set c raw))) hA hBb k2 k6 (fun x d hx hd ↦ by (rw [htr x d hx hd, hRR x hx])) hbc) ?_
  rintro _ _ ⟨⟨h, rfl, hh1, hh2, hh3⟩, rfl⟩
  refine wl (ro_assign rfl) ?_
  refine wl_nil (x_then (hK10 _ _ ?_))
  clear hK10 K10
  refine forget [(0, _), (1, _), (10, _)] ⟨rfl, rfl, rfl, trivial⟩ (fun e => ?_)
  refine c_seq (fun K11 hK11 => ?_)
  refine c_reg ?_ -- region 10 calc.go:40
  refine wl (ro_move rfl) ?_
  refine wl (ro_nilCheck rfl) ?_
  refine wl (ro_fieldAddr (k := 1) rfl fo_93_1) ?_
  refine wl (ro_loadB rfl sc_42 (by assumption) rfl) ?_
  refine wl_call rfl en_90 (Cyclic90 hA) ?_
  rintro _ _ ⟨rfl, rfl⟩
  refine wl (ro_assign rfl) ?_
  refine wl_nil (x_then (hK11 _ _ ?_))
  clear hK11 K11
  refine forget [(0, _), (1, _), (10, _), (11, _)] ⟨rfl, rfl, rfl, rfl, trivial⟩ (fun e => ?_)
  refine c_seq (fun K12 hK12 => ?_)
  refine c_reg ?_ -- region 11 calc.go:41
  refine wl (ro_move rfl) ?_
  refine wl (ro_move rfl) ?_
  refine wl (ro_move rfl) ?_
  refine wl (ro_and32 rfl rfl (by omega) (by omega)) ?_
  refine wl_call rfl en_91 (blight91 hb7 hK hV hsl (Nat.lt_of_le_of_lt Nat.and_le_left hh1)) ?_
  rintro _ u3 ⟨⟨SL1, hsl1, hS1, hV1⟩, G3⟩
  replace hev := hev.far hb1 G3 (fun b q1 q2 hh ↦ absurd (show b = C.s from hh) (by omega))
  have hsz4 := G3.size
  replace hF := hF.transG G3 (by intro k hk h; simp only [one, none', rng, swf, gall] at h ⊢ <;> omega)
  replace hK := G3.blkF hK (by intro h; simp only [one, none', rng, swf, gall] at h <;> omega)
  replace hR := G3.blkF hR (by intro h; simp only [one, none', rng, swf, gall] at h <;> omega)
  replace hA := G3.blkF hA (by intro h; simp only [one, none', rng, swf, gall] at h <;> omega)
  replace hQ := G3.blkF hQ (by intro h; simp only [one, none', rng, swf, gall] at h <;> omega)
  replace hBb := G3.blkF hBb (by intro h; simp only [one, none', rng, swf, gall] at h <;> omega)
  replace hLL := G3.blkF hLL (by intro h; simp only [one, none', rng, swf, gall] at h <;> omega)
  replace hN := G3.blkF hN (by intro h; simp only [one, none', rng, swf, gall] at h <;> omega)
  clear hV
  have hV := hV1
  clear hV1
  have hlw1 : ∀ v ∈ SL1, Lw v := by
    intro v hv
    obtain ⟨i, hi, rfl⟩ := List.getElem_of_mem hv
    have e1 : SL1[i]? = some (envF SL1 i) := env_get hi
    rw [List.getElem?_eq_getElem hi] at e1
    rw [Option.some.inj e1, hS1 i (by omega)]
    split
    · exact Lw.e (by omega) (by omega)
    · exact hlw _ (env_mem (by omega))
  have sws : SwS (tF T) (tF (T.set c raw)) L0 (lF LL) (envF SL) (envF SL1) h c := by
    refine ⟨hsh, fun x hx => by rw [tF_set (by omega), if_neg hx], hlv, hc, hh2 c hc (by rw [bit_pow]; simp), hh3, fun x hx => ?_⟩
    rw [hS1 x hx, Nat.testBit_and]
    have := hcb x hx
    by_cases q : lF LL x = -1
    · rw [this.2 q]; simp [q]
    · have hq : cy.testBit x = false := by
        cases hz : cy.testBit x with
        | false => rfl
        | true => exact absurd (this.1 hz) q
      rw [hq]; simp [q]
  refine wl_nil (x_then (hK12 _ _ ?_))
  clear hK12 K12
  refine forget [(0, _), (1, _), (10, _)] ⟨rfl, rfl, rfl, trivial⟩ (fun e => ?_)
  refine c_seq (fun K13 hK13 => ?_)
  refine c_reg ?_ -- region 12 calc.go:42
  refine wl (ro_move rfl) ?_
  refine wl (ro_nilCheck rfl) ?_
  refine wl (ro_fieldAddr (k := 1) rfl fo_93_1) ?_
  refine wl (ro_loadB rfl sc_42 (by assumption) rfl) ?_
  refine wl (ro_move rfl) ?_
  refine wl_call rfl en_92 (OrderG92 (R := rdT' (tF (T.set c raw))) ⟨RL, BL, LL, NL, cy, tc, ⟨hA, hQ, hBb, hLL, hN, k1, k2, k3, k4, k5, k6⟩, htr, hRR, hlv, hcy, hcb⟩ hh1) ?_
  rintro V4 u4 ⟨⟨l, L, hlv', ho, hO, hOb⟩, G4⟩
  replace hev := hev.far hb1 G4 (fun _ _ _ h => h)
  have hsz5 := G4.size
  replace hF := hF.transG G4 (by intro k hk h; simp only [one, none', rng, swf, gall] at h ⊢ <;> omega)
  replace hK := G4.blkF hK (by intro h; simp only [one, none', rng, swf, gall] at h <;> omega)
  replace hR := G4.blkF hR (by intro h; simp only [one, none', rng, swf, gall] at h <;> omega)
  replace hV := G4.blkF hV (by intro h; simp only [one, none', rng, swf, gall] at h <;> omega)
  replace hA := G4.blkF hA (by intro h; simp only [one, none', rng, swf, gall] at h <;> omega)
  replace hQ := G4.blkF hQ (by intro h; simp only [one, none', rng, swf, gall] at h <;> omega)
  replace hBb := G4.blkF hBb (by intro h; simp only [one, none', rng, swf, gall] at h <;> omega)
  replace hLL := G4.blkF hLL (by intro h; simp only [one, none', rng, swf, gall] at h <;> omega)
  replace hN := G4.blkF hN (by intro h; simp only [one, none', rng, swf, gall] at h <;> omega)
  replace ho := ho.congr (M := lF LL) (fun x hx => lv_uniq hlv' hlv x hx)
  replace hOb : ∀ b, V4.ownBlock = some b → hi ≤ b := fun b q => by have := hOb b q; omega
  refine wl (ro_assign rfl) ?_
  refine wl_nil (x_then (hK13 _ _ ?_))
  clear hK13 K13
  refine forget [(0, _), (1, _), (12, _)] ⟨rfl, rfl, rfl, trivial⟩ (fun e => ?_)
  refine c_seq (fun K14 hK14 => ?_)
  refine c_reg ?_ -- region 13 calc.go:43
  refine wl (ro_move rfl) ?_
  refine wl (ro_move rfl) ?_
  refine wl (ro_move rfl) ?_
  refine wl_call rfl en_93 (sweep93 hbb (by omega) hK hR hV (by rw [List.length_set]; exact htl) hsl1 (set_all h40 hr) hlw1 hev hA hQ k1 hRR sws ho hO hOb) ?_
  rintro _ u5 ⟨⟨SL2, turned, hsl2, hlw2, hV2, hev, hsw⟩, G5⟩
  replace hF := hF.transG G5 (by intro k hk h; simp only [one, none', rng, swf, gall] at h ⊢ <;> omega)
  replace hK := G5.blkF hK (by intro h; simp only [one, none', rng, swf, gall] at h <;> omega)
  replace hR := G5.blkF hR (by intro h; simp only [one, none', rng, swf, gall] at h <;> omega)
  replace hA := G5.blkF hA (by intro h; simp only [one, none', rng, swf, gall] at h <;> omega)
  replace hQ := G5.blkF hQ (by intro h; simp only [one, none', rng, swf, gall] at h <;> omega)
  replace hBb := G5.blkF hBb (by intro h; simp only [one, none', rng, swf, gall] at h <;> omega)
  replace hLL := G5.blkF hLL (by intro h; simp only [one, none', rng, swf, gall] at h <;> omega)
  replace hN := G5.blkF hN (by intro h; simp only [one, none', rng, swf, gall] at h <;> omega)
  refine wl_nil (x_then (hK14 _ _ ?_))
  clear hK14 K14
  refine forget [] trivial (fun e => ?_)
  refine c_seq (fun K15 hK15 => ?_)
  refine c_reg ?_ -- region 14 calc.go:44
  refine wl (ro_assign rfl) ?_
  refine wl_nil (x_then (hK15 _ _ ?_))
  clear hK15 K15
  refine c_ret ?_
  refine bp_ret Tryz.results59 rfl ?_
  refine ⟨rfl, ⟨SL2, hK, hR, hV2, by rw [List.length_set]; exact htl, hsl2, set_all h40 hr, hlw2, hev, ⟨RL, BL, LL, NL, cy, tc, ⟨hA, hQ, hBb, hLL, hN, k1, k2, k3, k4, k5, k6⟩, htr, hRR, hlv, hcy, hcb⟩, lF LL, sw_end sws ho hsw⟩, hF⟩

/-! ### the empty sheet -/
theorem rdsV_nil : rdsV [] = 0 := by unfold rdsV; rw [if_neg (by simp)]
theorem tF_rep (n c : Nat) : tF (List.replicate n []) c = [] := by
  unfold tF
  rw [List.getD_eq_getElem?_getD, List.getElem?_replicate]
  split <;> rfl
theorem env_rep (n c : Nat) : envF (List.replicate n vZ) c = vZ := by
  unfold envF
  rw [List.getD_eq_getElem?_getD, List.getElem?_replicate]
  split <;> rfl
theorem sh_empty : ShOK (tF (List.replicate 24 [])) (fun _ => 0) (envF (List.replicate 24 vZ)) := by
  refine ⟨fun c hc => .inl ⟨Int.le_refl _, fun d hd => ?_, .inl rfl⟩, fun c hc => ⟨fun h => (by cases h), fun _ => ?_⟩⟩
  · have := hd.2
    rw [show rdT' (tF (List.replicate 24 [])) c = rdsV (tF (List.replicate 24 []) c) from rfl, tF_rep, rdsV_nil] at this
    simp at this
  · rw [env_rep, tF_rep]
    unfold cellV
    rw [if_neg (by simp)]
    rfl
theorem New26 {w : World} {lo : Nat} {E : EB} {X : FB7} {G : GB} (hb1 : EvB lo G.g E X) (hg : GBo G) (hGn : G.n < w.heap.size) (hev : EvR w E X) (hgr : GrR w G (fun _ => 0)) :
    Ret Tryz.prog 26 [ptr E.e, ptr G.g] w (fun v w' => (∃ C : CB, v = ptr C.k ∧ CaB lo w'.heap.size C ∧ w.heap.size ≤ C.k ∧ CaV w' C (List.replicate 24 []) (List.replicate 24 vZ)) ∧ Fram none' w w') := by
  refine ret_of Tryz.func26 rfl Tryz.ntmps26 rfl ?_
  refine c_seq (fun K1 hK1 => ?_)
  refine c_reg ?_ -- region 0 calc.go:22
  refine wl (ro_assign rfl) ?_
  refine wl_nil (x_then (hK1 _ _ ?_))
  clear hK1 K1
  refine forget [(0, _), (1, _)] ⟨rfl, rfl, trivial⟩ (fun e => ?_)
  refine c_seq (fun K2 hK2 => ?_)
  refine c_piF 6 2 3 [0, 1] [(3, true), (4, false), (5, true)] [(2, true), (4, false), (5, true)] (fun _ => True) mixed (by kernel_rfl) rfl rfl (by kernel_rfl) (po_then (po_bp)) trivial ?_ -- region 1 calc.go:23
  refine wf_ro rfl (fun w hS => ro_move rfl) ?_
  refine wf_ro rfl (fun w hS => ro_move rfl) ?_
  refine wf_mm (m1 := 24) (m2 := 24) rfl rfl (by decide) se_56 se_86 ze_9 ze_104 (by simp) (by simp) (by omega) (by omega) rfl rfl bb_9 bb_104 (fun _ _ => trivial) ?_
  intro rb sb u1 hb1' hb2' hne hR hV F1
  refine ql_ro rfl (fun w hS => ro_build rfl bld_93_0_1_2_3) ?_
  refine ql_box rfl rfl rfl (fun _ _ => trivial) ?_
  intro kb u2 hbk hK F2
  refine ql_lastE rfl (ro_assign rfl) ?_
  refine x_then (hK2 _ _ ?_)
  clear hK2 K2
  refine c_ret ?_
  refine bp_ret Tryz.results26 rfl ?_
  have hz1 : u1.heap.size ≤ kb := hbk
  have hr1 := Blk.lt hR
  have hs1 := Blk.lt hV
  have F : Fram none' w u2 := ((Fram.drew none' w _).trans F1).trans F2
  replace hR := F2.blkN hR
  replace hV := F2.blkN hV
  have hq1 : w.heap.size ≤ rb := hb1'
  have hq2 : w.heap.size ≤ sb := hb2'
  rw [show (24 * 1 : Nat) = 24 * 1 from rfl, zc_rws (enc := stc) (x0 := []) rfl stc_len 24] at hR
  rw [zc_rws (enc := vlc) (x0 := vZ) rfl vlc_len 24] at hV
  refine ⟨⟨⟨kb, rb, sb, E, X, G⟩, rfl, ⟨hb1, hg, by show G.n < rb; omega, by show G.n < sb; omega, hne, by show rb < kb; omega, by show sb < kb; omega, hK.lt⟩, by show w.heap.size ≤ kb; omega, ⟨hK, hR, hV, List.length_replicate, List.length_replicate, ?_, ?_, hev.far hb1 F (fun _ _ _ h => h), ?_, _, sh_empty⟩⟩, F⟩
  · intro t ht; rw [List.eq_of_mem_replicate ht]; decide
  · intro t ht; rw [List.eq_of_mem_replicate ht]; exact Lw.z
  · have e : (fun _ => 0) = rdT' (tF (List.replicate 24 [])) := by
      funext c
      show 0 = rdsV (tF (List.replicate 24 []) c)
      rw [tF_rep, rdsV_nil]
    rw [← e]
    exact hgr.far F (fun _ _ h => h)

end Go.Proofs.Qxb6500570aGreat
