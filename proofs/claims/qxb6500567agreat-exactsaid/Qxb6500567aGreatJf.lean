import Derived.Test.Qxb6500567aGreatJe
/- The automaton: adopt, step, run, Any, New. -/
namespace Go.Proofs.Qxb6500567aGreat
set_option linter.unusedVariables false
set_option linter.unusedSimpArgs false

theorem own_prog {H : Array Obj} {pb : Nat} {p : List Ins} (h : PGB H pb (insL p)) (hl : p.length ≤ 1000 := by omega) : Own H (pgs pb p.length) 175 7 (insL p).length (rws ric (insL p)) := by
  refine ⟨rws_len ric_len _, .inr ⟨pb, p.length, rws ric (insL p), by rw [insL_len], h, by rw [insL_len]; exact Nat.le_refl _, by omega, by rw [rws_len ric_len, insL_len], ?_⟩⟩
  rw [List.take_of_length_le]
  rw [rws_len ric_len]
  exact Nat.le_refl _

/-- What the automaton owns. -/
def dset (D : DF) : Nat → Prop := fun k => k = D.db ∨ k = D.nx ∨ k = D.sk

/-- The automaton with the kept program p; no counter above cn. -/
structure DV (w : World) (D : DF) (kb : Nat) (p : List Ins) (N : DN) (g : Nat → Value) (cn : Nat) : Prop where
  blk : Blk w.heap D.db (dcl D (pgs kb p.length) N) 112
  nx : FB w.heap D.nx 1536 g 3
  sk : ∃ h, FB w.heap D.sk 64 h 3
  pg : PGB w.heap kb (insL p)
  ok : PrgOK p
  so : SetOK p
  ms : MK p N
  ci : CTI p N g
  kl : KL N
  u6 : N.u ≤ 6
  bu : N.bu ≤ cn
  fl : N.fl ≤ cn
  wo : N.wo ≤ cn
  ord : DFo D

theorem DV.ne {w : World} {D : DF} {kb cn : Nat} {p : List Ins} {N : DN} {g : Nat → Value} (V : DV w D kb p N g cn) : kb ≠ D.db ∧ kb ≠ D.nx ∧ kb ≠ D.sk := by
  obtain ⟨h, hk⟩ := V.sk
  refine ⟨fun e => ?_, fun e => ?_, fun e => ?_⟩
  · have := V.pg; rw [e] at this; exact absurd (this.uniq V.blk).2 (by decide)
  · have := V.pg; rw [e] at this; exact absurd (this.uniq V.nx).2 (by decide)
  · have := V.pg; rw [e] at this; exact absurd (this.uniq hk).2 (by decide)

/-- The automaton between calls. -/
def DVO (w : World) (D : DF) (cn : Nat) : Prop := ∃ (kv : Value) (N : DN) (g : Nat → Value), Blk w.heap D.db (dcl D kv N) 112 ∧ FB w.heap D.nx 1536 g 3 ∧ (∃ h, FB w.heap D.sk 64 h 3) ∧ KL N ∧ N.u ≤ 6 ∧ N.bu ≤ cn ∧ N.fl ≤ cn ∧ N.wo ≤ cn ∧ DFo D ∧ (∀ c b, c < 6 → b < 256 → N.u ≤ c → g (c * 256 + b) = icv (-1)) ∧ (kv = .slice none 0 0 ∨ ∃ kb p, kv = pgs kb p.length ∧ PGB w.heap kb (insL p) ∧ PrgOK p ∧ SetOK p ∧ MK p N ∧ CTI p N g)

theorem DV.out {w : World} {D : DF} {kb cn : Nat} {p : List Ins} {N : DN} {g : Nat → Value} (V : DV w D kb p N g cn) : DVO w D cn :=
  ⟨_, N, g, V.blk, V.nx, V.sk, V.kl, V.u6, V.bu, V.fl, V.wo, V.ord, V.ci.hi, .inr ⟨kb, p, rfl, V.pg, V.ok, V.so, V.ms, V.ci⟩⟩
theorem DVO.up {w : World} {D : DF} {cn cm : Nat} (h : DVO w D cn) (hc : cn ≤ cm) : DVO w D cm := by
  obtain ⟨kv, N, g, h1, h2, h3, h4, h5, h6, h7, h8, h9⟩ := h
  exact ⟨kv, N, g, h1, h2, h3, h4, h5, by omega, by omega, by omega, h9⟩

set_option maxHeartbeats 4000000 in
theorem adopt60 {w : World} {D : DF} {pb cn : Nat} {p : List Ins} (V : DVO w D cn) (hcn : cn ≤ 100000000000000000) (hP : PGB w.heap pb (insL p)) (hp : PrgOK p) (hs : SetOK p) :
    Ret Tryz.prog 60 [ptr D.db, pgs pb p.length] w (fun v w' => v = .tuple #[] ∧ (∃ kb N g, DV w' D kb p N g (cn + 1)) ∧ PGB w'.heap pb (insL p) ∧ Fram (dset D) w w') := by
  have hF : Fram (dset D) w w := Fram.refl _ _
  obtain ⟨kv, N, g, hB, hN, ⟨gs, hK⟩, hKL, hu, hbu, hfl, hwo, ⟨o1, o2⟩, hrest, hkv⟩ := V
  have hm : dset D D.db := .inl rfl
  have hppos := hp.pos
  have hple := hp.le
  have hpd : pb ≠ D.db := fun e => by rw [e] at hP; exact absurd (hP.uniq hB).2 (by decide)
  have hpn : pb ≠ D.nx := fun e => by rw [e] at hP; exact absurd (hP.uniq hN).2 (by decide)
  have hps : pb ≠ D.sk := fun e => by rw [e] at hP; exact absurd (hP.uniq hK).2 (by decide)
  have hkept : Ret Tryz.prog 77 [ptr D.db, pgs pb p.length] w (fun v w' => (∃ b, v = .bool b ∧ (b = true → ∃ kb, kv = pgs kb p.length ∧ PGB w.heap kb (insL p) ∧ MK p N ∧ CTI p N g)) ∧ Fram none' w w') := by
    rcases hkv with rfl | ⟨kb, p0, rfl, hG, hp0, hs0, hmk, hci⟩
    · refine Ret.mono (isKept77n hB hppos hple) ?_
      rintro v w' ⟨rfl, rfl⟩
      exact ⟨⟨false, rfl, fun h => by cases h⟩, Fram.refl _ _⟩
    · refine Ret.mono (isKept77 hB hG hP hs hs0 hple hp0.le) ?_
      rintro v w' ⟨⟨b, rfl, hb⟩, F⟩
      exact ⟨⟨b, rfl, fun h => by have := hb h; subst this; exact ⟨kb, rfl, hG, hmk, hci⟩⟩, F⟩
  clear hkv
  refine ret_of Tryz.func60 rfl Tryz.ntmps60 rfl ?_
  refine c_seq (fun K1 hK1 => ?_)
  refine c_seq (fun K2 hK2 => ?_)
  refine c_reg ?_ -- region 0 cache.go:27
  refine wl (ro_move rfl) ?_
  refine wl (ro_move rfl) ?_
  refine wl_call rfl en_77 (hkept) ?_
  rintro _ w3 ⟨⟨b3, rfl, hb3⟩, F3⟩
  replace hF := hF.transG F3 (by intro k hk h; simp only [one, two, none', dset] at h ⊢ <;> omega)
  replace hB := F3.blkF hB (by intro h; simp only [one, two, none', dset] at h <;> omega)
  replace hN := F3.blkF hN (by intro h; simp only [one, two, none', dset] at h <;> omega)
  replace hK := F3.blkF hK (by intro h; simp only [one, two, none', dset] at h <;> omega)
  replace hP := F3.blkF hP (by intro h; simp only [one, two, none', dset] at h <;> omega)
  refine wl_nil (x_then (hK2 _ _ ?_))
  clear hK2 K2
  refine wc_cond rfl (fun hc6 => ?_) (fun hc6 => ?_)
  · try simp only [decide_eq_true_eq, decide_eq_false_iff_not, Bool.not_eq_true', Bool.not_eq_false', Bool.not_eq_eq_eq_not, Bool.not_true, Bool.not_false, beq_iff_eq, bne_iff_ne, ne_eq, beq_eq_false_iff_ne, bne_eq_false_iff_eq, gt_iff_lt, ge_iff_le, Int.not_lt, Int.not_le] at hc6
    subst hc6
    obtain ⟨kb, rfl, hG, hmk, hci⟩ := hb3 rfl
    replace hG := F3.blkN hG
    refine c_ret (x_thenR ?_)
    refine bp_ret Tryz.results60 rfl ?_
    exact ⟨rfl, ⟨kb, N, g, hB, hN, ⟨_, hK⟩, hG, hp, hs, hmk, hci, hKL, hu, by omega, by omega, by omega, ⟨o1, o2⟩⟩, hP, hF⟩
  · try simp only [decide_eq_true_eq, decide_eq_false_iff_not, Bool.not_eq_true', Bool.not_eq_false', Bool.not_eq_eq_eq_not, Bool.not_true, Bool.not_false, beq_iff_eq, bne_iff_ne, ne_eq, beq_eq_false_iff_ne, bne_eq_false_iff_eq, gt_iff_lt, ge_iff_le, Int.not_lt, Int.not_le] at hc6
    refine c_skip (x_then (hK1 _ _ ?_))
    clear hK1 K1
    refine forget [(0, _), (1, _)] ⟨rfl, rfl, trivial⟩ (fun e => ?_)
    refine c_seq (fun K3 hK3 => ?_)
    refine c_reg ?_ -- region 1 cache.go:30
    refine wl (ro_move rfl) ?_
    refine wl_call rfl en_78 (flush78 (p := p) hB hN o1 hu (by omega) hrest hKL) ?_
    rintro _ w4 ⟨rfl, ⟨K', g', hB, hKL2, hN, hg⟩, F4⟩
    replace hF := hF.transG F4 (by intro k hk h; simp only [one, two, none', dset] at h ⊢ <;> omega)
    replace hK := F4.blkF hK (by intro h; simp only [one, two, none', dset] at h <;> omega)
    replace hP := F4.blkF hP (by intro h; simp only [one, two, none', dset] at h <;> omega)
    refine wl_nil (x_then (hK3 _ _ ?_))
    clear hK3 K3
    refine forget [(0, _), (1, _)] ⟨rfl, rfl, trivial⟩ (fun e => ?_)
    refine c_seq (fun K4 hK4 => ?_)
    have hPo : Own _ (pgs pb p.length) 175 7 (insL p).length (rws ric (insL p)) := own_prog hP
    refine c_reg ?_ -- region 2 cache.go:31
    refine wl (ro_move rfl) ?_
    refine wl (ro_move rfl) ?_
    refine wl_call rfl en_76 (CopyProg76 hPo (by rw [insL_len]; exact hppos) (by rw [insL_len]; omega)) ?_
    rintro _ w5 ⟨qb, rfl, hqb, hG, F5⟩
    rw [insL_len]
    have hqd : qb ≠ D.db := fun e => by have := hB.lt; omega
    have hqn : qb ≠ D.nx := fun e => by have := hN.lt; omega
    have hqs : qb ≠ D.sk := fun e => by have := hK.lt; omega
    have hqp : qb ≠ pb := fun e => by have := hP.lt; omega
    replace hF := hF.transG F5 (by intro k hk h; simp only [one, two, none', dset] at h ⊢ <;> omega)
    replace hB := F5.blkF hB (by intro h; simp only [one, two, none', dset] at h <;> omega)
    replace hN := F5.blkF hN (by intro h; simp only [one, two, none', dset] at h <;> omega)
    replace hK := F5.blkF hK (by intro h; simp only [one, two, none', dset] at h <;> omega)
    replace hP := F5.blkF hP (by intro h; simp only [one, two, none', dset] at h <;> omega)
    refine wl (ro_nilCheck rfl) ?_
    refine wl (ro_fieldAddr (k := 0) rfl fo_112_0) ?_
    refine wl_put rfl rfl rfl sz_109 hB ((by simp)) (rfl) (fun w1 hB F1 => ?_)
    replace hF := hF.thenDrew.thenO F1 (by first | exact .inr (by omega) | exact .inl rfl | exact .inl (by assumption))
    replace hN := F1.blkO hN (by omega)
    replace hK := F1.blkO hK (by omega)
    replace hP := F1.blkO hP (by omega)
    replace hG := F1.blkO hG (by omega)
    refine wl_nil (x_then (hK4 _ _ ?_))
    clear hK4 K4
    refine c_reg ?_ -- region 3 cache.go:32
    refine wl (ro_move rfl) ?_
    refine wl_call rfl en_79 (masks79 hB hG hp hqd) ?_
    rintro _ w6 ⟨rfl, ⟨c1, c2, c3, hB, hmk⟩, F6⟩
    replace hF := hF.transG F6 (by intro k hk h; simp only [one, two, none', dset] at h ⊢ <;> omega)
    replace hN := F6.blkF hN (by intro h; simp only [one, two, none', dset] at h <;> omega)
    replace hK := F6.blkF hK (by intro h; simp only [one, two, none', dset] at h <;> omega)
    replace hP := F6.blkF hP (by intro h; simp only [one, two, none', dset] at h <;> omega)
    replace hG := F6.blkF hG (by intro h; simp only [one, two, none', dset] at h <;> omega)
    refine wl_nil ?_
    refine bp_end Tryz.results60 rfl ?_
    exact ⟨rfl, ⟨qb, _, g', hB, hN, ⟨_, hK⟩, hG, hp, hs, hmk, CTI.none hg, hKL2, Nat.zero_le _, by show N.bu ≤ _; omega, by show N.fl + 1 ≤ _; omega, by show N.wo ≤ _; omega, ⟨o1, o2⟩⟩, hP, hF⟩

set_option maxHeartbeats 4000000 in
theorem step84 {w : World} {D : DF} {kb cn c : Nat} {p : List Ins} {N : DN} {g : Nat → Value} {b : UInt8} (V : DV w D kb p N g cn) (hcn : cn ≤ 100000000000000000) (hc : c < N.u) :
    Ret Tryz.prog 84 [ptr D.db, i64c c, u8c b] w (fun v w' => (∃ N' g' t, v = i64c t ∧ t < N'.u ∧ Suc p (N.K c) b.toNat (N'.K t) ∧ DV w' D kb p N' g' (cn + 1)) ∧ Fram (dset D) w w') := by
  have hF : Fram (dset D) w w := Fram.refl _ _
  have hb : b.toNat < 256 := b.toBitVec.isLt
  have hu6 := V.u6
  have hco := V.ord
  obtain ⟨hkd, hkn, hks⟩ := V.ne
  obtain ⟨hB, hN, ⟨gs, hK⟩, hG, hp, hs, hmk, hci, hkl, hu, hbu, hfl, hwo, ⟨o1, o2⟩⟩ := V
  have hQ := hkl c (by omega)
  have hm2 : dset D D.nx := .inr (.inl rfl)
  refine ret_of Tryz.func84 rfl Tryz.ntmps84 rfl ?_
  refine c_seq (fun K1 hK1 => ?_)
  refine c_reg ?_ -- region 0 dfa.go:88
  refine wl (ro_assign rfl) ?_
  refine wl_nil (x_then (hK1 _ _ ?_))
  clear hK1 K1
  refine forget [(0, _), (1, _), (2, _)] ⟨rfl, rfl, rfl, trivial⟩ (fun e => ?_)
  refine c_seq (fun K2 hK2 => ?_)
  refine c_reg ?_ -- region 1 dfa.go:89
  refine wl (ro_move rfl) ?_
  refine wl (ro_arith (r := ((c * 256 : Nat) : Int)) rfl rfl (congrArg some (by simp)) (Go.IntWalk.i64_in _ (by omega))) ?_
  refine wl (ro_move rfl) ?_
  refine wl (ro_conv rfl sc_5 in_3 (Go.IntWalk.i64_in _ (by omega))) ?_
  refine wl (ro_arith (r := ((c * 256 + b.toNat : Nat) : Int)) rfl rfl (congrArg some (by simp)) (Go.IntWalk.i64_in _ (by omega))) ?_
  refine wl (ro_assign rfl) ?_
  refine wl_nil (x_then (hK2 _ _ ?_))
  clear hK2 K2
  refine c_seq (fun K3 hK3 => ?_)
  refine c_seq (fun K4 hK4 => ?_)
  rcases hci c b.toNat (by omega) hb with hg1 | ⟨-, t, ht, hg1, hsuc⟩
  · skip
    refine c_reg ?_ -- region 2 dfa.go:90
    refine wl (ro_move rfl) ?_
    refine wl (ro_nilCheck rfl) ?_
    refine wl (ro_fieldAddr (k := 11) rfl fo_112_6) ?_
    refine wl (ro_loadB rfl sc_97 (hB) (rfl)) ?_
    refine wl (ro_move rfl) ?_
    refine wl (ro_indexAddr (et := 3) (k := 1) rfl rfl se_97 (rfl) ((by omega : c * 256 + b.toNat < 1536))) ?_
    refine wl (ro_loadB rfl sc_3 (hN) (cel_at (by omega) (by omega) hg1)) ?_
    refine wl (ro_cmp (r := false) rfl rfl rfl) ?_
    refine wl_nil (x_then (hK4 _ _ ?_))
    clear hK4 K4
    refine wc_condF rfl ?_
    refine c_skip (x_then (hK3 _ _ ?_))
    clear hK3 K3
    refine forget [(0, _), (1, _), (2, _), (7, _)] ⟨rfl, rfl, rfl, rfl, trivial⟩ (fun e => ?_)
    refine c_seq (fun K5 hK5 => ?_)
    refine c_reg ?_ -- region 4 dfa.go:93
    refine wl (ro_move rfl) ?_
    refine wl (ro_move rfl) ?_
    refine wl (ro_move rfl) ?_
    refine wl (ro_nilCheck rfl) ?_
    refine wl (ro_fieldAddr (k := 4) rfl fo_112_4) ?_
    refine wl (ro_indexAddrA (et := 85) (k := 1) rfl rfl ar_110 (rfl) ((by omega : c < 6))) ?_
    refine wl (ro_loadB rfl sc_85 (hB) (key_get (by omega))) ?_
    refine wl (ro_move rfl) ?_
    refine wl_call rfl en_112 (move112 (b := b) hB hG hp hmk hQ) ?_
    rintro _ w3 ⟨⟨M, rfl, hM64, hmov⟩, F3⟩
    replace hF := hF.transG F3 (by intro k hk h; simp only [one, two, none', dset] at h ⊢ <;> omega)
    replace hB := F3.blkF hB (by intro h; simp only [one, two, none', dset] at h <;> omega)
    replace hN := F3.blkF hN (by intro h; simp only [one, two, none', dset] at h <;> omega)
    replace hK := F3.blkF hK (by intro h; simp only [one, two, none', dset] at h <;> omega)
    replace hG := F3.blkF hG (by intro h; simp only [one, two, none', dset] at h <;> omega)
    refine wl (ro_assign rfl) ?_
    refine wl_nil (x_then (hK5 _ _ ?_))
    clear hK5 K5
    refine forget [(0, _), (7, _), (8, _)] ⟨rfl, rfl, rfl, trivial⟩ (fun e => ?_)
    refine c_seq (fun K6 hK6 => ?_)
    refine c_reg ?_ -- region 5 dfa.go:94
    refine wl (ro_move rfl) ?_
    refine wl (ro_move rfl) ?_
    refine wl_call rfl en_61 (closure61 hB hK hG (by omega) hkd hks hp hM64 (by omega)) ?_
    rintro _ w4 ⟨⟨R, rfl, hR64, hclo⟩, hB, ⟨g4, hK⟩, hG, F4⟩
    replace hF := hF.transG F4 (by intro k hk h; simp only [one, two, none', dset] at h ⊢ <;> omega)
    replace hN := F4.blkF hN (by intro h; simp only [one, two, none', dset] at h <;> omega)
    refine wl (ro_assign rfl) ?_
    refine wl_nil (x_then (hK6 _ _ ?_))
    clear hK6 K6
    refine forget [(0, _), (7, _), (9, _)] ⟨rfl, rfl, rfl, trivial⟩ (fun e => ?_)
    refine c_seq (fun K7 hK7 => ?_)
    refine c_reg ?_ -- region 6 dfa.go:95
    refine wl (ro_move rfl) ?_
    refine wl (ro_nilCheck rfl) ?_
    refine wl (ro_fieldAddr (k := 14) rfl fo_112_9) ?_
    refine wl (ro_loadB rfl sc_3 (hB) (rfl)) ?_
    refine wl (ro_assign rfl) ?_
    refine wl_nil (x_then (hK7 _ _ ?_))
    clear hK7 K7
    refine forget [(0, _), (7, _), (9, _), (10, _)] ⟨rfl, rfl, rfl, rfl, trivial⟩ (fun e => ?_)
    refine c_seq (fun K8 hK8 => ?_)
    have hci4 : CTI p { N with wo := N.wo + 1 } g := hci
    have hkl4 : KL { N with wo := N.wo + 1 } := hkl
    refine c_reg ?_ -- region 7 dfa.go:96
    refine wl (ro_move rfl) ?_
    refine wl (ro_move rfl) ?_
    refine wl_call rfl en_62 (cellOf62 (p := p) (N := { N with wo := N.wo + 1 }) hB hN o1 hu (by show N.fl ≤ _; omega) (by show N.bu ≤ _; omega) hci4 hkl4 hR64) ?_
    rintro _ w5 ⟨N', g', t, rfl, hco5, hB, hN, F5⟩
    replace hF := hF.transG F5 (by intro k hk h; simp only [one, two, none', dset] at h ⊢ <;> omega)
    replace hK := F5.blkF hK (by intro h; simp only [one, two, none', dset] at h <;> omega)
    replace hG := F5.blkF hG (by intro h; simp only [one, two, none', dset] at h <;> omega)
    obtain ⟨q1, q2, q3, q4, q5, q6, q7, q8, q9, q10, q11, q12⟩ := hco5
    have q9' : N'.bu ≤ N.bu + 1 := q9
    have q10' : N'.fl ≤ N.fl + 1 := q10
    have q11' : N'.wo = N.wo + 1 := q11
    have hsuc : Suc p (N.K c) b.toNat (N'.K t) := ⟨M, by rw [show UInt8.ofNat b.toNat = b from UInt8.ofNat_toNat]; exact hmov, by rw [q5]; exact hclo⟩
    have hmk' : MK p N' := ⟨by rw [q6]; exact hmk.ch, by rw [q7]; exact hmk.en, by rw [q8]; exact hmk.hi, by rw [q6]; exact hmk.c64, by rw [q7]; exact hmk.e64, by rw [q8]; exact hmk.h64⟩
    refine wl (ro_assign rfl) ?_
    refine wl_nil (x_then (hK8 _ _ ?_))
    clear hK8 K8
    refine c_seq (fun K9 hK9 => ?_)
    refine c_seq (fun K10 hK10 => ?_)
    refine c_reg ?_ -- region 8 dfa.go:97
    refine wl (ro_move rfl) ?_
    refine wl (ro_nilCheck rfl) ?_
    refine wl (ro_fieldAddr (k := 14) rfl fo_112_9) ?_
    refine wl (ro_loadB rfl sc_3 (hB) (rfl)) ?_
    refine wl (ro_move rfl) ?_
    refine wl (ro_cmp (r := decide (N'.fl = N.fl)) rfl rfl (congrArg some (beqc N'.fl N.fl))) ?_
    refine wl_nil (x_then (hK10 _ _ ?_))
    clear hK10 K10
    refine wc_cond rfl (fun hc56 => ?_) (fun hc56 => ?_)
    · try simp only [decide_eq_true_eq, decide_eq_false_iff_not, Bool.not_eq_true', Bool.not_eq_false', Bool.not_eq_eq_eq_not, Bool.not_true, Bool.not_false, beq_iff_eq, bne_iff_ne, ne_eq, beq_eq_false_iff_ne, bne_eq_false_iff_eq, gt_iff_lt, ge_iff_le, Int.not_lt, Int.not_le] at hc56
      obtain ⟨hold1, hold2⟩ := q12 hc56
      have hold1' : N.u ≤ N'.u := hold1
      refine c_reg ?_ -- region 9 dfa.go:98
      refine wl (ro_move rfl) ?_
      refine wl (ro_nilCheck rfl) ?_
      refine wl (ro_fieldAddr (k := 11) rfl fo_112_6) ?_
      refine wl (ro_loadB rfl sc_97 (hB) (rfl)) ?_
      refine wl (ro_move rfl) ?_
      refine wl (ro_move rfl) ?_
      refine wl (ro_indexAddr (et := 3) (k := 1) rfl rfl se_97 (rfl) ((by omega : c * 256 + b.toNat < 1536))) ?_
      refine wl_put rfl rfl rfl sz_3 hN ((cel_lt (by omega))) ((cel_put (c * 256 + b.toNat) (by omega))) (fun w1 hN F1 => ?_)
      replace hF := hF.thenDrew.thenO F1 (by first | exact .inr (by omega) | exact .inl rfl | exact .inl (by assumption))
      replace hB := F1.blkO hB (by omega)
      replace hK := F1.blkO hK (by omega)
      replace hG := F1.blkO hG (by omega)
      refine wl_nil (x_then (hK9 _ _ ?_))
      clear hK9 K9
      refine forget [(11, _)] ⟨rfl, trivial⟩ (fun e => ?_)
      refine c_seq (fun K11 hK11 => ?_)
      refine c_reg ?_ -- region 10 dfa.go:100
      refine wl (ro_move rfl) ?_
      refine wl (ro_assign rfl) ?_
      refine wl_nil (x_then (hK11 _ _ ?_))
      clear hK11 K11
      refine c_ret ?_
      refine bp_ret Tryz.results84 rfl ?_
      refine ⟨⟨N', _, t, rfl, q4, hsuc, hB, hN, ⟨_, hK⟩, hG, hp, hs, hmk', ?_, q2, q3, by omega, by omega, by omega, ⟨o1, o2⟩⟩, hF⟩
      intro c' b' hc' hb'
      by_cases h : c' * 256 + b' = c * 256 + b.toNat
      · have hcc : c' = c := by omega
        have hbb : b' = b.toNat := by omega
        subst hcc hbb
        refine .inr ⟨by omega, t, q4, by rw [pt_same], ?_⟩
        rw [hold2 c' hc]
        exact hsuc
      · rw [pt_ne h]
        exact q1 c' b' hc' hb'
    · try simp only [decide_eq_true_eq, decide_eq_false_iff_not, Bool.not_eq_true', Bool.not_eq_false', Bool.not_eq_eq_eq_not, Bool.not_true, Bool.not_false, beq_iff_eq, bne_iff_ne, ne_eq, beq_eq_false_iff_ne, bne_eq_false_iff_eq, gt_iff_lt, ge_iff_le, Int.not_lt, Int.not_le] at hc56
      refine c_skip (x_then (hK9 _ _ ?_))
      clear hK9 K9
      refine forget [(11, _)] ⟨rfl, trivial⟩ (fun e => ?_)
      refine c_seq (fun K12 hK12 => ?_)
      refine c_reg ?_ -- region 10 dfa.go:100
      refine wl (ro_move rfl) ?_
      refine wl (ro_assign rfl) ?_
      refine wl_nil (x_then (hK12 _ _ ?_))
      clear hK12 K12
      refine c_ret ?_
      refine bp_ret Tryz.results84 rfl ?_
      exact ⟨⟨N', g', t, rfl, q4, hsuc, hB, hN, ⟨_, hK⟩, hG, hp, hs, hmk', q1, q2, q3, by omega, by omega, by omega, ⟨o1, o2⟩⟩, hF⟩
  · skip
    refine c_reg ?_ -- region 2 dfa.go:90
    refine wl (ro_move rfl) ?_
    refine wl (ro_nilCheck rfl) ?_
    refine wl (ro_fieldAddr (k := 11) rfl fo_112_6) ?_
    refine wl (ro_loadB rfl sc_97 (hB) (rfl)) ?_
    refine wl (ro_move rfl) ?_
    refine wl (ro_indexAddr (et := 3) (k := 1) rfl rfl se_97 (rfl) ((by omega : c * 256 + b.toNat < 1536))) ?_
    refine wl (ro_loadB rfl sc_3 (hN) (cel_at (by omega) (by omega) hg1)) ?_
    refine wl (ro_cmp (r := true) rfl rfl (congrArg some (decide_eq_true (by omega)))) ?_
    refine wl_nil (x_then (hK4 _ _ ?_))
    clear hK4 K4
    refine wc_condT rfl ?_
    refine c_seq (fun K13 hK13 => ?_)
    refine c_reg ?_ -- region 3 dfa.go:91
    refine wl (ro_move rfl) ?_
    refine wl (ro_nilCheck rfl) ?_
    refine wl (ro_fieldAddr (k := 11) rfl fo_112_6) ?_
    refine wl (ro_loadB rfl sc_97 (hB) (rfl)) ?_
    refine wl (ro_move rfl) ?_
    refine wl (ro_indexAddr (et := 3) (k := 1) rfl rfl se_97 (rfl) ((by omega : c * 256 + b.toNat < 1536))) ?_
    refine wl (ro_loadB rfl sc_3 (hN) (cel_at (by omega) (by omega) hg1)) ?_
    refine wl (ro_assign rfl) ?_
    refine wl_nil (x_then (hK13 _ _ ?_))
    clear hK13 K13
    refine c_ret (x_thenR ?_)
    refine bp_ret Tryz.results84 rfl ?_
    exact ⟨⟨N, g, t, rfl, ht, hsuc, hB, hN, ⟨_, hK⟩, hG, hp, hs, hmk, hci, hkl, hu, by omega, by omega, by omega, ⟨o1, o2⟩⟩, hF⟩

end Go.Proofs.Qxb6500567aGreat
