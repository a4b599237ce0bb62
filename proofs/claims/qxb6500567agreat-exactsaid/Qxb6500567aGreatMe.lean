import Derived.Test.Qxb6500567aGreatMd
/- The finder: scan. -/
namespace Go.Proofs.Qxb6500567aGreat
set_option linter.unusedVariables false
set_option linter.unusedSimpArgs false

theorem EGV.framN {w w' : World} {E : EB} {cn d : Nat} (V : EGV w E cn) (f : Fram none' { w with drawn := d } w') : EGV w' E cn := by
  obtain ⟨m0, m1, V⟩ := V
  exact ⟨m0, m1, V.framN f⟩
theorem EGV.framB {w w' : World} {E : EB} {cn d b : Nat} {l : List Value} {t : TypeId} (V : EGV w E cn) (ho : EBo E) (f : Fram (one b) { w with drawn := d } w') (hb : Blk w.heap b l t) (ht : t ≠ 175) (hlt : E.eb < b) : EGV w' E cn := by
  obtain ⟨m0, m1, V⟩ := V
  exact ⟨m0, m1, V.framB ho f hb ht hlt⟩
theorem EGV.up {w : World} {E : EB} {cn cm : Nat} (V : EGV w E cn) (h : cn ≤ cm) : EGV w E cm := by
  obtain ⟨m0, m1, V⟩ := V
  exact ⟨m0, m1, V.blk, V.sm, V.a, V.b, V.pk, V.df.up h⟩
theorem EGV.drew {w : World} {E : EB} {cn d : Nat} (V : EGV w E cn) : EGV { w with drawn := d } E cn := V.framN (d := w.drawn) (Fram.drew none' w d)

theorem SpV.app {sf : Nat → Value} {L : List (List Int)} (h : SpV sf L) (c : List Int) : SpV (pts sf (L.length * 8) (capc c)) (L ++ [c]) := by
  intro k q hk j hj
  by_cases hkl : k < L.length
  · rw [List.getElem?_append_left hkl] at hk
    rw [pts_out (by omega)]
    exact h k q hk j hj
  · rw [List.getElem?_append_right (by omega)] at hk
    have hk0 : k = L.length := by
      have := (List.getElem?_eq_some_iff.1 hk).1
      simp at this
      omega
    subst hk0
    simp at hk
    subst hk
    exact pts_in (cel_get hj)
theorem SpV.nil (sf : Nat → Value) : SpV sf [] := fun k c h => by simp at h

/-- The finder's blocks. -/
structure FK where
  fb : Nat
  xs : Nat
  ps : Nat
  E : EB
structure FKo (F : FK) : Prop where
  eo : EBo F.E
  ef : F.E.eb < F.fb
  fx : F.fb < F.xs
  xp : F.xs < F.ps

abbrev fcl (F : FK) (n np : Nat) : List Value := [ptr F.E.eb, sl F.xs 257, i64c n, sl F.ps 32, i64c np]

/-- All that it owns. -/
def kset (F : FK) : Nat → Prop := fun k => k = F.fb ∨ k = F.xs ∨ k = F.ps ∨ eset F.E k

theorem chain_pre {n : Nat} : ∀ (A B : List (List Int)) (i : Nat), ChainOK n i (A ++ B) → ChainOK n i A
  | [], _, _, _ => trivial
  | c :: A, B, i, h => ⟨h.1, chain_pre A B _ h.2⟩

set_option maxHeartbeats 4000000 in
theorem scan39e {w : World} {F : FK} {cn n np er q : Nat} {sf : Nat → Value} {pat s : List UInt8} {b : Bool} {c : List Int} (ho : FKo F) (hB : Blk w.heap F.fb (fcl F n np) 120) (V : EGV w F.E cn) (he : er ≠ 0) :
    Ret Tryz.prog 39 [ptr F.fb, S pat, S s, .agg (fdc er q b c).toArray] w (fun v w' => v = .tuple #[i64c er, i64c q] ∧ Blk w'.heap F.fb (fcl F 0 np) 120 ∧ EGV w' F.E cn ∧ Fram (one F.fb) w w') := by
  have hF : Fram (one F.fb) w w := Fram.refl _ _
  have oef := ho.ef
  refine ret_of Tryz.func39 rfl Tryz.ntmps39 rfl ?_
  refine c_seq (fun K1 hK1 => ?_)
  refine c_reg ?_ -- region 0 scan.go:9
  refine wl_box (cs := (fdc er q b c)) rfl rfl (fun hb w1 hbhb hH F1 => ?_)
  have hbshb := Nat.le_trans hF.size hbhb
  have hneF.fbhb : F.fb < hb := Nat.lt_of_lt_of_le hB.lt hbhb
  replace hF := hF.thenDrew.thenN F1
  replace hB := F1.blkN hB
  replace V := V.framN (d := World.drawn _) F1
  have hB1 := hB
  refine wl (ro_assign rfl) ?_
  refine wl (ro_assign rfl) ?_
  refine wl_nil (x_then (hK1 _ _ ?_))
  clear hK1 K1
  refine forget [(0, _), (1, _), (2, _), (7, _)] ⟨rfl, rfl, rfl, rfl, trivial⟩ (fun e => ?_)
  refine c_seq (fun K2 hK2 => ?_)
  refine c_reg ?_ -- region 1 scan.go:10
  refine wl (ro_move rfl) ?_
  refine wl (ro_nilCheck rfl) ?_
  refine wl (ro_fieldAddr (k := 2) rfl fo_120_2) ?_
  refine wl_put rfl rfl rfl sz_3 hB ((by simp)) ((show _ = fcl F 0 np from rfl)) (fun w2 hB F2 => ?_)
  replace hF := hF.thenDrew.thenO F2 (by first | exact .inr (by omega) | exact .inl rfl | exact .inl (by assumption))
  replace hH := F2.blkO hH (by omega)
  replace V := V.framB (d := World.drawn _) ho.eo F2 hB1 (by decide) oef
  refine wl_nil (x_then (hK2 _ _ ?_))
  clear hK2 K2
  refine forget [(0, _), (1, _), (2, _), (7, _)] ⟨rfl, rfl, rfl, rfl, trivial⟩ (fun e => ?_)
  refine c_seq (fun K3 hK3 => ?_)
  refine c_reg ?_ -- region 2 scan.go:11
  refine wl (ro_assign rfl) ?_
  refine wl_nil (x_then (hK3 _ _ ?_))
  clear hK3 K3
  refine forget [(0, _), (1, _), (2, _), (7, _), (10, _)] ⟨rfl, rfl, rfl, rfl, rfl, trivial⟩ (fun e => ?_)
  refine c_seq (fun K4 hK4 => ?_)
  refine c_block ?_
  -- loop@r3: live slots [0, 1, 2, 7, 10]
  refine c_loopG (fun m a' w' => Blk w'.heap F.fb (fcl F 0 np) 120 ∧ Blk w'.heap hb (fdc er q b c) 57 ∧ EGV w' F.E cn ∧ Fram (one F.fb) w w' ∧ ∃ e, a' = Fr 100 (upds e [(0, ptr F.fb), (1, S pat), (2, S s), (7, ptr hb), (10, i64c 0)]) []) 0 ⟨hB, hH, V, hF, kp _ ⟨rfl, rfl, rfl, rfl, rfl, trivial⟩⟩ ?_
  clear hB hH V hF
  rintro m a' w1 ⟨hB, hH, V, hF, e, rfl⟩
  refine c_seq (fun K5 hK5 => ?_)
  refine c_seq (fun K6 hK6 => ?_)
  refine c_pi [(0, false), (1, false), (2, false), (3, false), (4, false), (5, false), (6, false), (7, false), (8, false), (9, false), (10, false), (11, false), (12, false), (13, false), (14, false), (15, false), (16, false), (17, false), (18, false)] (SameH _) mixed (by kernel_rfl) rfl (by kernel_rfl) (po_then (po_then (po_then (po_blk (po_then (po_bp)))))) (sameH_now _ _) ?_ -- region 3 scan.go:12
  refine pi_ro rfl (fun w hS => ro_fieldAddr (k := 0) rfl fo_57_0) ?_
  refine pi_ro rfl (fun w hS => ro_loadB rfl sc_53 (Blk.of_heap hH hS) (rfl)) ?_
  refine pi_ro rfl (fun w hS => ro_cmp (r := false) rfl rfl (congrArg some ((beqc _ 0).trans (decide_eq_false he)))) ?_
  refine pi_ro rfl (fun w hS => ro_move rfl) ?_
  refine pi_gno rfl rfl ?_
  refine pi_gno rfl rfl ?_
  refine pi_ro rfl (fun w hS => ro_pick rfl rfl rfl) ?_
  refine pi_ro rfl (fun w hS => ro_move rfl) ?_
  refine pi_gno rfl rfl ?_
  refine pi_gno rfl rfl ?_
  refine pi_gno rfl rfl ?_
  refine pi_gno rfl rfl ?_
  refine pi_gno rfl rfl ?_
  refine pi_gno rfl rfl ?_
  refine pi_gno rfl rfl ?_
  refine pi_gno rfl rfl ?_
  refine pi_gno rfl rfl ?_
  refine pi_gno rfl rfl ?_
  refine pi_ro rfl (fun w hS => ro_pick rfl rfl rfl) ?_
  refine pi_nil (x_then (hK6 _ _ ?_))
  clear hK6 K6
  refine wc_condF rfl ?_
  refine c_exit (x_thenX (x_thenX (x_blkX (x_then (hK4 _ _ ?_)))))
  clear hK5 K5 hK4 K4
  refine forget [(7, _)] ⟨rfl, trivial⟩ (fun e => ?_)
  refine c_seq (fun K7 hK7 => ?_)
  replace V := V.drew (d := w1.drawn + 1)
  replace hF := hF.thenDrew (k := w1.drawn + 1)
  refine c_pi [(0, false), (1, false), (2, false), (3, false), (4, false), (5, false)] (SameH _) mixed (by kernel_rfl) rfl (by kernel_rfl) (po_then (po_bp)) (sameH_now _ _) ?_ -- region 15 scan.go:28
  refine pi_ro rfl (fun w hS => ro_fieldAddr (k := 0) rfl fo_57_0) ?_
  refine pi_ro rfl (fun w hS => ro_loadB rfl sc_53 (Blk.of_heap hH hS) (rfl)) ?_
  refine pi_ro rfl (fun w hS => ro_fieldAddr (k := 1) rfl fo_57_1) ?_
  refine pi_ro rfl (fun w hS => ro_loadB rfl sc_3 (Blk.of_heap hH hS) (rfl)) ?_
  refine pi_ro rfl (fun w hS => ro_assign rfl) ?_
  refine pi_ro rfl (fun w hS => ro_assign rfl) ?_
  refine pi_nil (x_then (hK7 _ _ ?_))
  clear hK7 K7
  refine c_ret ?_
  refine bp_ret Tryz.results39 rfl ?_
  exact ⟨rfl, hB, V.drew, hF.thenDrew⟩

theorem lft_hasc {pat s : List UInt8} {r : RE} (hE : engT pat s = .ok r) (i : Nat) : hasc pat s i = fdc 0 0 (lft s r i).isSome nocaps := by unfold hasc; rw [hE]
theorem lft_engc {pat s : List UInt8} {r : RE} (hE : engT pat s = .ok r) (i : Nat) : engc pat s i = fdc 0 0 (lft s r i).isSome (capO (lft s r i)) := by unfold engc; rw [hE]

set_option maxHeartbeats 8000000 in
theorem scan39o {w : World} {F : FK} {cn n np : Nat} {sf : Nat → Value} {pat s : List UInt8} {r : RE} (ho : FKo F) (hB : Blk w.heap F.fb (fcl F n np) 120) (hX : FB w.heap F.xs 2056 sf 55) (V : EGV w F.E cn) (hcn : cn ≤ 60000000000000000) (hE : engT pat s = .ok r) :
    Ret Tryz.prog 39 [ptr F.fb, S pat, S s, .agg (hasc pat s 0).toArray] w (fun v w' => v = .tuple #[i64c 0, i64c 0] ∧ Blk w'.heap F.fb (fcl F (scanAll s r 0).length np) 120 ∧ (∃ sf', FB w'.heap F.xs 2056 sf' 55 ∧ SpV sf' (scanAll s r 0)) ∧ EGV w' F.E (cn + 200000) ∧ Fram (fun k => k = F.fb ∨ k = F.xs ∨ eset F.E k) w w') := by
  have hF : Fram (fun k => k = F.fb ∨ k = F.xs ∨ eset F.E k) w w := Fram.refl _ _
  obtain ⟨hw, -, hpl, hsl, -⟩ := engT_ok hE
  have oef := ho.ef
  have ofx := ho.fx
  have hall : ∀ k, eset F.E k → k ≤ F.E.eb := fun k hk => ho.eo.all hk
  have hmf : (fun k => k = F.fb ∨ k = F.xs ∨ eset F.E k) F.fb := .inl rfl
  have hmx : (fun k => k = F.fb ∨ k = F.xs ∨ eset F.E k) F.xs := .inr (.inl rfl)
  rw [lft_hasc hE]
  refine ret_of Tryz.func39 rfl Tryz.ntmps39 rfl ?_
  refine c_seq (fun K1 hK1 => ?_)
  refine c_reg ?_ -- region 0 scan.go:9
  refine wl_box (cs := (fdc 0 0 (lft s r 0).isSome nocaps)) rfl rfl (fun hb w1 hbhb hH F1 => ?_)
  have hbshb := Nat.le_trans hF.size hbhb
  have hneF.fbhb : F.fb < hb := Nat.lt_of_lt_of_le hB.lt hbhb
  have hneF.xshb : F.xs < hb := Nat.lt_of_lt_of_le hX.lt hbhb
  replace hF := hF.thenDrew.thenN F1
  replace hB := F1.blkN hB
  replace hX := F1.blkN hX
  replace V := V.framN (d := World.drawn _) F1
  have hB1 := hB
  refine wl (ro_assign rfl) ?_
  refine wl (ro_assign rfl) ?_
  refine wl_nil (x_then (hK1 _ _ ?_))
  clear hK1 K1
  refine forget [(0, _), (1, _), (2, _), (7, _)] ⟨rfl, rfl, rfl, rfl, trivial⟩ (fun e => ?_)
  refine c_seq (fun K2 hK2 => ?_)
  refine c_reg ?_ -- region 1 scan.go:10
  refine wl (ro_move rfl) ?_
  refine wl (ro_nilCheck rfl) ?_
  refine wl (ro_fieldAddr (k := 2) rfl fo_120_2) ?_
  refine wl_put rfl rfl rfl sz_3 hB ((by simp)) ((show _ = fcl F ([] : List (List Int)).length np from rfl)) (fun w2 hB F2 => ?_)
  replace hF := hF.thenDrew.thenO F2 (by first | exact .inr (by omega) | exact .inl rfl | exact .inl (by assumption))
  replace hX := F2.blkO hX (by omega)
  replace hH := F2.blkO hH (by omega)
  replace V := V.framB (d := World.drawn _) ho.eo F2 hB1 (by decide) oef
  refine wl_nil (x_then (hK2 _ _ ?_))
  clear hK2 K2
  refine forget [(0, _), (1, _), (2, _), (7, _)] ⟨rfl, rfl, rfl, rfl, trivial⟩ (fun e => ?_)
  refine c_seq (fun K3 hK3 => ?_)
  refine c_reg ?_ -- region 2 scan.go:11
  refine wl (ro_assign rfl) ?_
  refine wl_nil (x_then (hK3 _ _ ?_))
  clear hK3 K3
  refine forget [(0, _), (1, _), (2, _), (7, _), (10, _)] ⟨rfl, rfl, rfl, rfl, rfl, trivial⟩ (fun e => ?_)
  refine c_seq (fun K4 hK4 => ?_)
  refine c_block ?_
  -- loop@r3: live slots [0, 1, 2, 7, 10]
  refine c_loopG (fun m a' w' => ∃ (i cm : Nat) (L : List (List Int)) (sf : Nat → Value), m = s.length + 1 - i ∧ i ≤ s.length ∧ L.length ≤ i ∧ cm ≤ cn + 400 * i ∧ scanAll s r 0 = L ++ scanAll s r i ∧ SpV sf L ∧ Blk w'.heap F.fb (fcl F L.length np) 120 ∧ FB w'.heap F.xs 2056 sf 55 ∧ Blk w'.heap hb (fdc 0 0 (lft s r i).isSome nocaps) 57 ∧ EGV w' F.E cm ∧ Fram (fun k => k = F.fb ∨ k = F.xs ∨ eset F.E k) w w' ∧ ∃ e, a' = Fr 100 (upds e [(0, ptr F.fb), (1, S pat), (2, S s), (7, ptr hb), (10, i64c i)]) []) (s.length + 1) ⟨0, cn, [], sf, rfl, by omega, by simp, by omega, rfl, SpV.nil _, hB, hX, hH, V, hF, kp _ ⟨rfl, rfl, rfl, rfl, rfl, trivial⟩⟩ ?_
  clear hB hX hH V hF
  rintro m a' w1 ⟨i, cm, L, sf, rfl, hi, hLi, hcm, hsc, hsv, hB, hX, hH, V, hF, e, rfl⟩
  refine c_seq (fun K5 hK5 => ?_)
  refine c_seq (fun K6 hK6 => ?_)
  rcases hlf : lft s r i with _ | cc
  · skip
    rw [hlf] at hH
    rw [scanAll_none hlf, List.append_nil] at hsc
    refine c_pi [(0, false), (1, false), (2, false), (3, false), (4, false), (5, false), (6, false), (7, false), (8, false), (9, false), (10, false), (11, false), (12, false), (13, false), (14, false), (15, false), (16, false), (17, false), (18, false)] (SameH _) mixed (by kernel_rfl) rfl (by kernel_rfl) (po_then (po_then (po_then (po_blk (po_then (po_bp)))))) (sameH_now _ _) ?_ -- region 3 scan.go:12
    refine pi_ro rfl (fun w hS => ro_fieldAddr (k := 0) rfl fo_57_0) ?_
    refine pi_ro rfl (fun w hS => ro_loadB rfl sc_53 (Blk.of_heap hH hS) (rfl)) ?_
    refine pi_ro rfl (fun w hS => ro_cmp (r := true) rfl rfl rfl) ?_
    refine pi_ro rfl (fun w hS => ro_move rfl) ?_
    refine pi_gyes rfl rfl (fun w hS => ro_fieldAddr (k := 2) rfl fo_57_2) ?_
    refine pi_gyes rfl rfl (fun w hS => ro_loadB rfl sc_4 (Blk.of_heap hH hS) (rfl)) ?_
    refine pi_ro rfl (fun w hS => ro_pick rfl rfl rfl) ?_
    refine pi_ro rfl (fun w hS => ro_move rfl) ?_
    refine pi_gno rfl rfl ?_
    refine pi_gno rfl rfl ?_
    refine pi_gno rfl rfl ?_
    refine pi_gno rfl rfl ?_
    refine pi_gno rfl rfl ?_
    refine pi_gno rfl rfl ?_
    refine pi_gno rfl rfl ?_
    refine pi_gno rfl rfl ?_
    refine pi_gno rfl rfl ?_
    refine pi_gno rfl rfl ?_
    refine pi_ro rfl (fun w hS => ro_pick rfl rfl rfl) ?_
    refine pi_nil (x_then (hK6 _ _ ?_))
    clear hK6 K6
    refine wc_condF rfl ?_
    refine c_exit (x_thenX (x_thenX (x_blkX (x_then (hK4 _ _ ?_)))))
    clear hK5 K5 hK4 K4
    refine forget [(7, _)] ⟨rfl, trivial⟩ (fun e => ?_)
    refine c_seq (fun K7 hK7 => ?_)
    replace V := V.drew (d := w1.drawn + 1)
    replace hF := hF.thenDrew (k := w1.drawn + 1)
    refine c_pi [(0, false), (1, false), (2, false), (3, false), (4, false), (5, false)] (SameH _) mixed (by kernel_rfl) rfl (by kernel_rfl) (po_then (po_bp)) (sameH_now _ _) ?_ -- region 15 scan.go:28
    refine pi_ro rfl (fun w hS => ro_fieldAddr (k := 0) rfl fo_57_0) ?_
    refine pi_ro rfl (fun w hS => ro_loadB rfl sc_53 (Blk.of_heap hH hS) (rfl)) ?_
    refine pi_ro rfl (fun w hS => ro_fieldAddr (k := 1) rfl fo_57_1) ?_
    refine pi_ro rfl (fun w hS => ro_loadB rfl sc_3 (Blk.of_heap hH hS) (rfl)) ?_
    refine pi_ro rfl (fun w hS => ro_assign rfl) ?_
    refine pi_ro rfl (fun w hS => ro_assign rfl) ?_
    refine pi_nil (x_then (hK7 _ _ ?_))
    clear hK7 K7
    refine c_ret ?_
    refine bp_ret Tryz.results39 rfl ?_
    rw [hsc]
    exact ⟨rfl, hB, ⟨_, hX, hsv⟩, V.drew.up (by omega), hF.thenDrew⟩
  · skip
    rw [hlf] at hH
    have hmo := lft_ok hw hlf
    obtain ⟨hk0, hk1, hk2, hk3, hk4, hk5, hk6⟩ := hmo.cap
    obtain ⟨hg0, hg1⟩ := caps_get hmo
    have hsce := scanAll_some hw hi hlf
    have hcall := Match37 (pat := pat) (s := s) (i := i) ho.eo (V.drew (d := w1.drawn + 1)) hi (by omega) (by omega)
    rw [lft_engc hE, hlf] at hcall
    simp only [capO, Option.isSome_some] at hcall
    refine c_pi [(0, false), (1, false), (2, false), (3, false), (4, false), (5, false), (6, false), (7, false), (8, false), (9, false), (10, false), (11, false), (12, false), (13, false), (14, false), (15, false), (16, false), (17, false), (18, false)] (SameH _) mixed (by kernel_rfl) rfl (by kernel_rfl) (po_then (po_then (po_then (po_blk (po_then (po_bp)))))) (sameH_now _ _) ?_ -- region 3 scan.go:12
    refine pi_ro rfl (fun w hS => ro_fieldAddr (k := 0) rfl fo_57_0) ?_
    refine pi_ro rfl (fun w hS => ro_loadB rfl sc_53 (Blk.of_heap hH hS) (rfl)) ?_
    refine pi_ro rfl (fun w hS => ro_cmp (r := true) rfl rfl rfl) ?_
    refine pi_ro rfl (fun w hS => ro_move rfl) ?_
    refine pi_gyes rfl rfl (fun w hS => ro_fieldAddr (k := 2) rfl fo_57_2) ?_
    refine pi_gyes rfl rfl (fun w hS => ro_loadB rfl sc_4 (Blk.of_heap hH hS) (rfl)) ?_
    refine pi_ro rfl (fun w hS => ro_pick rfl rfl rfl) ?_
    refine pi_ro rfl (fun w hS => ro_move rfl) ?_
    refine pi_gyes rfl rfl (fun w hS => ro_move rfl) ?_
    refine pi_gyes rfl rfl (fun w hS => ro_nilCheck rfl) ?_
    refine pi_gyes rfl rfl (fun w hS => ro_fieldAddr (k := 2) rfl fo_120_2) ?_
    refine pi_gyes rfl rfl (fun w hS => ro_loadB rfl sc_3 (Blk.of_heap hB hS) (rfl)) ?_
    refine pi_gyes rfl rfl (fun w hS => ro_move rfl) ?_
    refine pi_gyes rfl rfl (fun w hS => ro_nilCheck rfl) ?_
    refine pi_gyes rfl rfl (fun w hS => ro_fieldAddr (k := 1) rfl fo_120_1) ?_
    refine pi_gyes rfl rfl (fun w hS => ro_loadB rfl sc_27 (Blk.of_heap hB hS) (rfl)) ?_
    refine pi_gyes rfl rfl (fun w hS => ro_lenL rfl se_27) ?_
    refine pi_gyes rfl rfl (fun w hS => ro_cmp (r := true) rfl rfl (congrArg some (decide_eq_true (by omega)))) ?_
    refine pi_ro rfl (fun w hS => ro_pick rfl rfl rfl) ?_
    refine pi_nil (x_then (hK6 _ _ ?_))
    clear hK6 K6
    refine wc_condT rfl ?_
    refine c_skip (x_then (hK5 _ _ ?_))
    clear hK5 K5
    refine c_block ?_
    refine forget [(0, _), (1, _), (2, _), (7, _), (10, _), (19, _), (20, _), (23, _), (24, _), (25, _), (26, _), (27, _), (28, _), (29, _), (30, _), (31, _), (32, _)] ⟨rfl, rfl, rfl, rfl, rfl, rfl, rfl, rfl, rfl, rfl, rfl, rfl, rfl, rfl, rfl, rfl, rfl, trivial⟩ (fun e => ?_)
    refine c_seq (fun K8 hK8 => ?_)
    refine c_reg ?_ -- region 4 scan.go:13
    refine wl (ro_move rfl) ?_
    refine wl (ro_nilCheck rfl) ?_
    refine wl (ro_fieldAddr (k := 0) rfl fo_120_0) ?_
    refine wl (ro_loadB rfl sc_50 (hB) (rfl)) ?_
    refine wl (ro_move rfl) ?_
    refine wl (ro_move rfl) ?_
    refine wl (ro_move rfl) ?_
    refine wl_call rfl en_37 (hcall) ?_
    rintro _ w3 ⟨rfl, V, F3⟩
    replace hB := F3.blkF hB (fun h => by have := hall _ h; omega)
    replace hX := F3.blkF hX (fun h => by have := hall _ h; omega)
    replace hH := F3.blkF hH (fun h => by have := hall _ h; omega)
    replace hF := hF.transG F3 (fun k _ h ↦ .inr (.inr h))
    refine wl_new (ze_57) (fun mb w3 hbmb hM F3 => ?_)
    have hbsmb := Nat.le_trans hF.size hbmb
    have hneF.fbmb : F.fb < mb := Nat.lt_of_lt_of_le hB.lt hbmb
    have hneF.xsmb : F.xs < mb := Nat.lt_of_lt_of_le hX.lt hbmb
    have hnehbmb : hb < mb := Nat.lt_of_lt_of_le hH.lt hbmb
    replace hF := hF.thenDrew.thenN F3
    replace hB := F3.blkN hB
    replace hX := F3.blkN hX
    replace hH := F3.blkN hH
    replace V := V.framN (d := World.drawn _) F3
    have hM0 := hM
    refine wl_puta rfl rfl ((fdc_cells 0 0 true cc)) sz_57 (rfl) hM ((by simp)) ((show _ = fdc 0 0 true cc from rfl)) (fun w4 hM F4 => ?_)
    replace hF := hF.thenDrew.thenO F4 (by first | exact .inr (by omega) | exact .inl rfl | exact .inl (by assumption))
    replace hB := F4.blkO hB (by omega)
    replace hX := F4.blkO hX (by omega)
    replace hH := F4.blkO hH (by omega)
    replace V := V.framB (d := World.drawn _) ho.eo F4 hM0 (by decide) (by omega)
    refine wl_nil (x_then (hK8 _ _ ?_))
    clear hK8 K8
    refine c_seq (fun K9 hK9 => ?_)
    refine c_seq (fun K10 hK10 => ?_)
    refine c_reg ?_ -- region 5 scan.go:14
    refine wl (ro_fieldAddr (k := 0) rfl fo_57_0) ?_
    refine wl (ro_loadB rfl sc_53 (hM) (rfl)) ?_
    refine wl (ro_cmp (r := false) rfl rfl rfl) ?_
    refine wl (ro_move rfl) ?_
    refine wlg_yes rfl (ro_fieldAddr (k := 2) rfl fo_57_2) ?_
    refine wlg_yes rfl (ro_loadB rfl sc_4 (hM) (rfl)) ?_
    refine wlg_yes rfl (ro_not rfl) ?_
    refine wl (ro_pick rfl rfl rfl) ?_
    refine wl_nil (x_then (hK10 _ _ ?_))
    clear hK10 K10
    refine wc_condF rfl ?_
    refine c_skip (x_then (hK9 _ _ ?_))
    clear hK9 K9
    refine forget [(0, _), (1, _), (2, _), (7, _), (11, _), (19, _), (20, _), (23, _), (24, _), (25, _), (26, _), (27, _), (28, _), (29, _), (30, _), (31, _), (32, _), (46, _), (47, _), (48, _)] ⟨rfl, rfl, rfl, rfl, rfl, rfl, rfl, rfl, rfl, rfl, rfl, rfl, rfl, rfl, rfl, rfl, rfl, rfl, rfl, rfl, trivial⟩ (fun e => ?_)
    refine c_seq (fun K11 hK11 => ?_)
    have hX0 := hX
    refine c_piL 11 [(0, false), (1, false), (2, false), (3, false), (4, false), (5, false), (6, false), (7, false), (8, false), (9, false), (10, false)] (SameH _) mixed (by kernel_rfl) rfl (by kernel_rfl) (po_then (po_blk (po_then (po_blk (po_then (po_bp)))))) (sameH_now _ _) ?_ -- region 7 scan.go:17
    refine ql_ro rfl (fun w hS => ro_move rfl) ?_
    refine ql_ro rfl (fun w hS => ro_nilCheck rfl) ?_
    refine ql_ro rfl (fun w hS => ro_fieldAddr (k := 1) rfl fo_120_1) ?_
    refine ql_ro rfl (fun w hS => ro_loadB rfl sc_27 (Blk.of_heap hB hS) (rfl)) ?_
    refine ql_ro rfl (fun w hS => ro_move rfl) ?_
    refine ql_ro rfl (fun w hS => ro_nilCheck rfl) ?_
    refine ql_ro rfl (fun w hS => ro_fieldAddr (k := 2) rfl fo_120_2) ?_
    refine ql_ro rfl (fun w hS => ro_loadB rfl sc_3 (Blk.of_heap hB hS) (rfl)) ?_
    refine ql_ro rfl (fun w hS => ro_fieldAddr (k := 3) rfl fo_57_3) ?_
    refine ql_ro rfl (fun w hS => ro_loadAggB rfl ag_55 (Blk.of_heap hM hS) (rfl) (rfl)) ?_
    refine ql_ro rfl (fun w hS => ro_indexAddr (et := 55) (k := 8) rfl rfl se_27 (rfl) ((by omega : L.length < 257))) ?_
    refine ql_puta rfl rfl rfl ((capc_cells cc)) sz_55 (rfl) hX ((by rw [cel_len]; show _ + 8 ≤ _; omega)) ((cel_puts (L.length * 8) (by omega) rfl (by show _ + 8 ≤ _; omega))) (fun w5 hX F5 => ?_)
    replace hF := hF.thenDrew.thenO F5 (by first | exact .inr (by omega) | exact .inl rfl | exact .inl (by assumption))
    replace hB := F5.blkO hB (by omega)
    replace hH := F5.blkO hH (by omega)
    replace hM := F5.blkO hM (by omega)
    replace V := V.framB ho.eo F5 hX0 (by decide) (by omega)
    have hB1 := hB
    refine x_then (hK11 _ _ ?_)
    clear hK11 K11
    refine forget [(0, _), (1, _), (2, _), (7, _), (11, _), (19, _), (20, _), (23, _), (24, _), (25, _), (26, _), (27, _), (28, _), (29, _), (30, _), (31, _), (32, _), (46, _), (47, _), (48, _)] ⟨rfl, rfl, rfl, rfl, rfl, rfl, rfl, rfl, rfl, rfl, rfl, rfl, rfl, rfl, rfl, rfl, rfl, rfl, rfl, rfl, trivial⟩ (fun e => ?_)
    refine c_seq (fun K12 hK12 => ?_)
    refine c_reg ?_ -- region 8 scan.go:18
    refine wl (ro_move rfl) ?_
    refine wl (ro_nilCheck rfl) ?_
    refine wl (ro_fieldAddr (k := 2) rfl fo_120_2) ?_
    refine wl (ro_loadB rfl sc_3 (hB) (rfl)) ?_
    refine wl (ro_arith (r := ((L.length + 1 : Nat) : Int)) rfl rfl rfl (Go.IntWalk.i64_in _ (by omega))) ?_
    refine wl (ro_nilCheck rfl) ?_
    refine wl (ro_fieldAddr (k := 2) rfl fo_120_2) ?_
    refine wl_put rfl rfl rfl sz_3 hB ((by simp)) ((show _ = fcl F (L.length + 1) np from rfl)) (fun w6 hB F6 => ?_)
    replace hF := hF.thenDrew.thenO F6 (by first | exact .inr (by omega) | exact .inl rfl | exact .inl (by assumption))
    replace hX := F6.blkO hX (by omega)
    replace hH := F6.blkO hH (by omega)
    replace hM := F6.blkO hM (by omega)
    replace V := V.framB (d := World.drawn _) ho.eo F6 hB1 (by decide) oef
    refine wl_nil (x_then (hK12 _ _ ?_))
    clear hK12 K12
    refine forget [(0, _), (1, _), (2, _), (7, _), (11, _), (19, _), (20, _), (23, _), (24, _), (25, _), (26, _), (27, _), (28, _), (29, _), (30, _), (31, _), (32, _), (46, _), (47, _), (48, _)] ⟨rfl, rfl, rfl, rfl, rfl, rfl, rfl, rfl, rfl, rfl, rfl, rfl, rfl, rfl, rfl, rfl, rfl, rfl, rfl, rfl, trivial⟩ (fun e => ?_)
    refine c_seq (fun K13 hK13 => ?_)
    refine c_reg ?_ -- region 9 scan.go:19
    refine wl (ro_fieldAddr (k := 3) rfl fo_57_3) ?_
    refine wl (ro_indexAddrA (et := 3) (k := 1) rfl rfl ar_55 ((show (1 : Int) = ((1 : Nat) : Int) from rfl)) ((by omega : 1 < 8))) ?_
    refine wl (ro_loadB rfl sc_3 (hM) ((show _ = some (i64c (capE cc)) from congrArg (fun z => some (icv z)) hg1))) ?_
    refine wl (ro_assign rfl) ?_
    refine wl_nil (x_then (hK13 _ _ ?_))
    clear hK13 K13
    refine c_seq (fun K14 hK14 => ?_)
    refine c_seq (fun K15 hK15 => ?_)
    refine c_reg ?_ -- region 10 scan.go:20
    refine wl (ro_fieldAddr (k := 3) rfl fo_57_3) ?_
    refine wl (ro_indexAddrA (et := 3) (k := 1) rfl rfl ar_55 ((show (1 : Int) = ((1 : Nat) : Int) from rfl)) ((by omega : 1 < 8))) ?_
    refine wl (ro_loadB rfl sc_3 (hM) ((show _ = some (i64c (capE cc)) from congrArg (fun z => some (icv z)) hg1))) ?_
    refine wl (ro_fieldAddr (k := 3) rfl fo_57_3) ?_
    refine wl (ro_indexAddrA (et := 3) (k := 1) rfl rfl ar_55 ((show (0 : Int) = ((0 : Nat) : Int) from rfl)) ((by omega : 0 < 8))) ?_
    refine wl (ro_loadB rfl sc_3 (hM) ((show _ = some (i64c (capB cc)) from congrArg (fun z => some (icv z)) hg0))) ?_
    refine wl (ro_cmp (r := decide (capE cc = capB cc)) rfl rfl (congrArg some (beqc _ _))) ?_
    refine wl_nil (x_then (hK15 _ _ ?_))
    clear hK15 K15
    refine wc_cond rfl (fun hc81 => ?_) (fun hc81 => ?_)
    · try simp only [decide_eq_true_eq, decide_eq_false_iff_not, Bool.not_eq_true', Bool.not_eq_false', Bool.not_eq_eq_eq_not, Bool.not_true, Bool.not_false, beq_iff_eq, bne_iff_ne, ne_eq, beq_eq_false_iff_ne, bne_eq_false_iff_eq, gt_iff_lt, ge_iff_le, Int.not_lt, Int.not_le] at hc81
      have hnf : nextF cc = capE cc + 1 := by unfold nextF; rw [if_pos hc81]
      refine c_reg ?_ -- region 11 scan.go:21
      refine wl (ro_move rfl) ?_
      refine wl (ro_arith (r := ((capE cc + 1 : Nat) : Int)) rfl rfl rfl (Go.IntWalk.i64_in _ (by omega))) ?_
      refine wl (ro_assign rfl) ?_
      refine wl_nil (x_then (hK14 _ _ ?_))
      clear hK14 K14
      refine c_seq (fun K16 hK16 => ?_)
      refine c_seq (fun K17 hK17 => ?_)
      refine c_reg ?_ -- region 12 scan.go:23
      refine wl (ro_move rfl) ?_
      refine wl (ro_move rfl) ?_
      refine wl (ro_lenS rfl st_9) ?_
      refine wl (ro_cmp (r := decide (s.length < nextF cc)) rfl rfl (congrArg some (by rw [hnf]; exact decide_eq_decide.2 (by show ((_ : Nat) : Int) > _ ↔ _; omega)))) ?_
      refine wl_nil (x_then (hK17 _ _ ?_))
      clear hK17 K17
      refine wc_cond rfl (fun hc87 => ?_) (fun hc87 => ?_)
      · try simp only [decide_eq_true_eq, decide_eq_false_iff_not, Bool.not_eq_true', Bool.not_eq_false', Bool.not_eq_eq_eq_not, Bool.not_true, Bool.not_false, beq_iff_eq, bne_iff_ne, ne_eq, beq_eq_false_iff_ne, bne_eq_false_iff_eq, gt_iff_lt, ge_iff_le, Int.not_lt, Int.not_le] at hc87
        refine c_seq (fun K18 hK18 => ?_)
        refine c_reg ?_ -- region 13 scan.go:24
        refine wl (ro_assign rfl) ?_
        refine wl (ro_assign rfl) ?_
        refine wl_nil (x_then (hK18 _ _ ?_))
        clear hK18 K18
        refine c_ret (x_thenR (x_blkR (x_thenR (x_blkR (x_thenR ?_)))))
        refine bp_ret Tryz.results39 rfl ?_
        rw [hsc, hsce, scanAll_past hc87]
        exact ⟨rfl, by rw [List.length_append]; exact hB, ⟨_, hX, hsv.app cc⟩, V.up (by omega), hF⟩
      · try simp only [decide_eq_true_eq, decide_eq_false_iff_not, Bool.not_eq_true', Bool.not_eq_false', Bool.not_eq_eq_eq_not, Bool.not_true, Bool.not_false, beq_iff_eq, bne_iff_ne, ne_eq, beq_eq_false_iff_ne, bne_eq_false_iff_eq, gt_iff_lt, ge_iff_le, Int.not_lt, Int.not_le] at hc87
        refine c_skip (x_then (hK16 _ _ ?_))
        clear hK16 K16
        have hcal2 := Has36 (pat := pat) (s := s) (i := nextF cc) ho.eo V (by omega) (by omega) (by omega) (by omega)
        rw [lft_hasc hE, hnf] at hcal2
        have hH0 := hH
        refine c_reg ?_ -- region 14 scan.go:26
        refine wl (ro_move rfl) ?_
        refine wl (ro_nilCheck rfl) ?_
        refine wl (ro_fieldAddr (k := 0) rfl fo_120_0) ?_
        refine wl (ro_loadB rfl sc_50 (hB) (rfl)) ?_
        refine wl (ro_move rfl) ?_
        refine wl (ro_move rfl) ?_
        refine wl (ro_move rfl) ?_
        refine wl_call rfl en_36 (hcal2) ?_
        rintro _ w8 ⟨rfl, V, F8⟩
        replace hB := F8.blkF hB (fun h => by have := hall _ h; omega)
        replace hX := F8.blkF hX (fun h => by have := hall _ h; omega)
        replace hH := F8.blkF hH (fun h => by have := hall _ h; omega)
        replace hF := hF.transG F8 (fun k _ h ↦ .inr (.inr h))
        have hH0 := hH
        refine wl_puta rfl rfl ((fdc_cells 0 0 _ _)) sz_57 (rfl) hH ((by simp)) (rfl) (fun w7 hH F7 => ?_)
        replace hF := hF.thenDrew.thenO F7 (by first | exact .inr (by omega) | exact .inl rfl | exact .inl (by assumption))
        replace hB := F7.blkO hB (by omega)
        replace hX := F7.blkO hX (by omega)
        replace V := V.framB (d := World.drawn _) ho.eo F7 hH0 (by decide) (by omega)
        refine wl_nil (x_blk (x_then ?_))
        refine ⟨s.length + 1 - nextF cc, by omega, nextF cc, cm + 400, L ++ [cc], _, rfl, by omega, by rw [List.length_append]; show L.length + 1 ≤ _; omega, by omega, by rw [hsc, hsce]; simp, hsv.app cc, by rw [List.length_append]; exact hB, hX, by rw [hnf]; exact hH, V, hF, kp _ ⟨rfl, rfl, rfl, rfl, by rw [hnf]; rfl, trivial⟩⟩
    · try simp only [decide_eq_true_eq, decide_eq_false_iff_not, Bool.not_eq_true', Bool.not_eq_false', Bool.not_eq_eq_eq_not, Bool.not_true, Bool.not_false, beq_iff_eq, bne_iff_ne, ne_eq, beq_eq_false_iff_ne, bne_eq_false_iff_eq, gt_iff_lt, ge_iff_le, Int.not_lt, Int.not_le] at hc81
      have hnf : nextF cc = capE cc := by unfold nextF; rw [if_neg hc81]
      refine c_skip (x_then (hK14 _ _ ?_))
      clear hK14 K14
      refine c_seq (fun K19 hK19 => ?_)
      refine c_seq (fun K20 hK20 => ?_)
      refine c_reg ?_ -- region 12 scan.go:23
      refine wl (ro_move rfl) ?_
      refine wl (ro_move rfl) ?_
      refine wl (ro_lenS rfl st_9) ?_
      refine wl (ro_cmp (r := decide (s.length < nextF cc)) rfl rfl (congrArg some (by rw [hnf]; exact decide_eq_decide.2 (by show ((_ : Nat) : Int) > _ ↔ _; omega)))) ?_
      refine wl_nil (x_then (hK20 _ _ ?_))
      clear hK20 K20
      refine wc_cond rfl (fun hc87 => ?_) (fun hc87 => ?_)
      · try simp only [decide_eq_true_eq, decide_eq_false_iff_not, Bool.not_eq_true', Bool.not_eq_false', Bool.not_eq_eq_eq_not, Bool.not_true, Bool.not_false, beq_iff_eq, bne_iff_ne, ne_eq, beq_eq_false_iff_ne, bne_eq_false_iff_eq, gt_iff_lt, ge_iff_le, Int.not_lt, Int.not_le] at hc87
        refine c_seq (fun K21 hK21 => ?_)
        refine c_reg ?_ -- region 13 scan.go:24
        refine wl (ro_assign rfl) ?_
        refine wl (ro_assign rfl) ?_
        refine wl_nil (x_then (hK21 _ _ ?_))
        clear hK21 K21
        refine c_ret (x_thenR (x_blkR (x_thenR (x_blkR (x_thenR ?_)))))
        refine bp_ret Tryz.results39 rfl ?_
        rw [hsc, hsce, scanAll_past hc87]
        exact ⟨rfl, by rw [List.length_append]; exact hB, ⟨_, hX, hsv.app cc⟩, V.up (by omega), hF⟩
      · try simp only [decide_eq_true_eq, decide_eq_false_iff_not, Bool.not_eq_true', Bool.not_eq_false', Bool.not_eq_eq_eq_not, Bool.not_true, Bool.not_false, beq_iff_eq, bne_iff_ne, ne_eq, beq_eq_false_iff_ne, bne_eq_false_iff_eq, gt_iff_lt, ge_iff_le, Int.not_lt, Int.not_le] at hc87
        refine c_skip (x_then (hK19 _ _ ?_))
        clear hK19 K19
        have hcal2 := Has36 (pat := pat) (s := s) (i := nextF cc) ho.eo V (by omega) (by omega) (by omega) (by omega)
        rw [lft_hasc hE, hnf] at hcal2
        have hH0 := hH
        refine c_reg ?_ -- region 14 scan.go:26
        refine wl (ro_move rfl) ?_
        refine wl (ro_nilCheck rfl) ?_
        refine wl (ro_fieldAddr (k := 0) rfl fo_120_0) ?_
        refine wl (ro_loadB rfl sc_50 (hB) (rfl)) ?_
        refine wl (ro_move rfl) ?_
        refine wl (ro_move rfl) ?_
        refine wl (ro_move rfl) ?_
        refine wl_call rfl en_36 (hcal2) ?_
        rintro _ w8 ⟨rfl, V, F8⟩
        replace hB := F8.blkF hB (fun h => by have := hall _ h; omega)
        replace hX := F8.blkF hX (fun h => by have := hall _ h; omega)
        replace hH := F8.blkF hH (fun h => by have := hall _ h; omega)
        replace hF := hF.transG F8 (fun k _ h ↦ .inr (.inr h))
        have hH0 := hH
        refine wl_puta rfl rfl ((fdc_cells 0 0 _ _)) sz_57 (rfl) hH ((by simp)) (rfl) (fun w8 hH F8 => ?_)
        replace hF := hF.thenDrew.thenO F8 (by first | exact .inr (by omega) | exact .inl rfl | exact .inl (by assumption))
        replace hB := F8.blkO hB (by omega)
        replace hX := F8.blkO hX (by omega)
        replace V := V.framB (d := World.drawn _) ho.eo F8 hH0 (by decide) (by omega)
        refine wl_nil (x_blk (x_then ?_))
        refine ⟨s.length + 1 - nextF cc, by omega, nextF cc, cm + 400, L ++ [cc], _, rfl, by omega, by rw [List.length_append]; show L.length + 1 ≤ _; omega, by omega, by rw [hsc, hsce]; simp, hsv.app cc, by rw [List.length_append]; exact hB, hX, by rw [hnf]; exact hH, V, hF, kp _ ⟨rfl, rfl, rfl, rfl, by rw [hnf]; rfl, trivial⟩⟩

end Go.Proofs.Qxb6500567aGreat
