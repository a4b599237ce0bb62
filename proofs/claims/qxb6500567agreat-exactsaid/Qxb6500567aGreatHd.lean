import Derived.Test.Qxb6500567aGreatHc
/- The model's finder: Split, Replace. -/
namespace Go.Proofs.Qxb6500567aGreat
set_option linter.unusedVariables false
set_option linter.unusedSimpArgs false

/-- What Split answers. -/
def SpP (w w' : World) (p s : List UInt8) (v : Value) : Prop := ∃ (V : Value) (e q : Nat), v = .tuple #[V, i64c e, i64c q] ∧ match engT p s with
  | .error er => V = .slice none 0 0 ∧ e = er.1 ∧ q = er.2
  | .ok r => e = 0 ∧ q = 0 ∧ TL w' V (splF s (scanAll s r 0) 0) w.heap.size w'.heap.size

theorem engT_long {p s : List UInt8} (h : 128 < p.length ∨ 256 < s.length) : engT p s = .error (12, 0) := by unfold engT; rw [if_pos h]

theorem scanAll_chain {s : List UInt8} {r : RE} (hw : WF r) (i : Nat) : ChainOK s.length i (scanAll s r i) := scan_chain hw _ _

theorem drop_consA {α : Type} {L : List α} {k : Nat} {x : α} (h : L[k]? = some x) : L.drop k = x :: L.drop (k + 1) := by
  obtain ⟨h1, h2⟩ := List.getElem?_eq_some_iff.1 h
  rw [List.drop_eq_getElem_cons h1, h2]

theorem st_len (x : List UInt8) : ([S x] : List Value).length = 1 := rfl
theorem st_cells (x : List UInt8) : ∀ u ∈ [S x], u.oneCell' = true := by intro u hu; simp at hu; subst hu; rfl

set_option maxHeartbeats 4000000 in
theorem Split29 {w : World} {fb n : Nat} {E : MB} {p s : List UInt8} (V : FMV w fb E n) (hn : n < 100000000000000) (hpm : p.length ≤ 9223372036854775807) (hsm : s.length ≤ 9223372036854775807) :
    Ret Tryz.prog 29 [ptr fb, S p, S s] w (fun v w' => SpP w w' p s v ∧ FMV w' fb E (n + 600) ∧ Fram (mset E) w w') := by
  have hF : Fram (mset E) w w := Fram.refl _ _
  have hl := V.eng.lt
  have hl2 := V.blk.lt
  refine ret_of Tryz.func29 rfl Tryz.ntmps29 rfl ?_
  refine c_seq (fun K1 hK1 => ?_)
  refine c_reg ?_ -- region 0 findm.go:102
  refine wl (ro_assign rfl) ?_
  refine wl (ro_assign rfl) ?_
  refine wl (ro_assign rfl) ?_
  refine wl_nil (x_then (hK1 _ _ ?_))
  clear hK1 K1
  refine c_seq (fun K2 hK2 => ?_)
  refine c_seq (fun K3 hK3 => ?_)
  have hql : 128 < p.length ∨ (p.length ≤ 128 ∧ 256 < s.length) ∨ (p.length ≤ 128 ∧ s.length ≤ 256) := by omega
  rcases hql with q | q | q
  · skip
    have hE : engT p s = .error (12, 0) := engT_long (by omega)
    refine c_reg ?_ -- region 1 findm.go:103
    refine wl (ro_move rfl) ?_
    refine wl (ro_lenS rfl st_9) ?_
    refine wl (ro_cmp (r := true) rfl rfl (congrArg some (decide_eq_true (by omega)))) ?_
    refine wl (ro_move rfl) ?_
    refine wlg_no rfl ?_
    refine wlg_no rfl ?_
    refine wlg_no rfl ?_
    refine wl (ro_pick rfl rfl rfl) ?_
    refine wl_nil (x_then (hK3 _ _ ?_))
    clear hK3 K3
    refine wc_condT rfl ?_
    refine c_seq (fun K4 hK4 => ?_)
    refine c_reg ?_ -- region 2 findm.go:104
    refine wl (ro_assign rfl) ?_
    refine wl (ro_assign rfl) ?_
    refine wl (ro_assign rfl) ?_
    refine wl_nil (x_then (hK4 _ _ ?_))
    clear hK4 K4
    refine c_ret (x_thenR ?_)
    refine bp_ret Tryz.results29 rfl ?_
    exact ⟨⟨_, 12, 0, rfl, by rw [hE]; exact ⟨rfl, rfl, rfl⟩⟩, ⟨V.blk, V.eng.up (by omega), V.ord, V.ef⟩, hF⟩
  · skip
    have hE : engT p s = .error (12, 0) := engT_long (by omega)
    refine c_reg ?_ -- region 1 findm.go:103
    refine wl (ro_move rfl) ?_
    refine wl (ro_lenS rfl st_9) ?_
    refine wl (ro_cmp (r := false) rfl rfl (congrArg some (decide_eq_false (by omega)))) ?_
    refine wl (ro_move rfl) ?_
    refine wlg_yes rfl (ro_move rfl) ?_
    refine wlg_yes rfl (ro_lenS rfl st_9) ?_
    refine wlg_yes rfl (ro_cmp (r := true) rfl rfl (congrArg some (decide_eq_true (by omega)))) ?_
    refine wl (ro_pick rfl rfl rfl) ?_
    refine wl_nil (x_then (hK3 _ _ ?_))
    clear hK3 K3
    refine wc_condT rfl ?_
    refine c_seq (fun K5 hK5 => ?_)
    refine c_reg ?_ -- region 2 findm.go:104
    refine wl (ro_assign rfl) ?_
    refine wl (ro_assign rfl) ?_
    refine wl (ro_assign rfl) ?_
    refine wl_nil (x_then (hK5 _ _ ?_))
    clear hK5 K5
    refine c_ret (x_thenR ?_)
    refine bp_ret Tryz.results29 rfl ?_
    exact ⟨⟨_, 12, 0, rfl, by rw [hE]; exact ⟨rfl, rfl, rfl⟩⟩, ⟨V.blk, V.eng.up (by omega), V.ord, V.ef⟩, hF⟩
  · skip
    refine c_reg ?_ -- region 1 findm.go:103
    refine wl (ro_move rfl) ?_
    refine wl (ro_lenS rfl st_9) ?_
    refine wl (ro_cmp (r := false) rfl rfl (congrArg some (decide_eq_false (by omega)))) ?_
    refine wl (ro_move rfl) ?_
    refine wlg_yes rfl (ro_move rfl) ?_
    refine wlg_yes rfl (ro_lenS rfl st_9) ?_
    refine wlg_yes rfl (ro_cmp (r := false) rfl rfl (congrArg some (decide_eq_false (by omega)))) ?_
    refine wl (ro_pick rfl rfl rfl) ?_
    refine wl_nil (x_then (hK3 _ _ ?_))
    clear hK3 K3
    refine wc_condF rfl ?_
    refine c_skip (x_then (hK2 _ _ ?_))
    clear hK2 K2
    refine forget [(0, _), (1, _), (2, _)] ⟨rfl, rfl, rfl, trivial⟩ (fun e => ?_)
    refine c_seq (fun K6 hK6 => ?_)
    rcases hE : engT p s with er | r
    · skip
      have hen := engT_er hE
      refine c_reg ?_ -- region 3 findm.go:106
      refine wl (ro_move rfl) ?_
      refine wl (ro_move rfl) ?_
      refine wl (ro_move rfl) ?_
      refine wl_call rfl en_24 (FindAll24 V hn hpm hsm) ?_
      rintro _ w1 ⟨⟨VA, e1, q1, rfl, hP⟩, V, F1⟩
      rw [hE] at hP
      obtain ⟨rfl, rfl, rfl⟩ := hP
      replace hF := hF.trans F1
      refine wl (ro_move rfl) ?_
      refine wl (ro_extract rfl rfl) ?_
      refine wl (ro_extract rfl rfl) ?_
      refine wl (ro_extract rfl rfl) ?_
      refine wl (ro_assign rfl) ?_
      refine wl (ro_assign rfl) ?_
      refine wl (ro_assign rfl) ?_
      refine wl_nil (x_then (hK6 _ _ ?_))
      clear hK6 K6
      refine c_seq (fun K7 hK7 => ?_)
      refine c_seq (fun K8 hK8 => ?_)
      refine c_reg ?_ -- region 4 findm.go:107
      refine wl (ro_move rfl) ?_
      refine wl (ro_cmp (r := true) rfl rfl (congrArg some ((bnec er.1 0).trans (decide_eq_true hen)))) ?_
      refine wl_nil (x_then (hK8 _ _ ?_))
      clear hK8 K8
      refine wc_condT rfl ?_
      refine c_seq (fun K9 hK9 => ?_)
      refine c_reg ?_ -- region 5 findm.go:108
      refine wl (ro_move rfl) ?_
      refine wl (ro_move rfl) ?_
      refine wl (ro_assign rfl) ?_
      refine wl (ro_assign rfl) ?_
      refine wl (ro_assign rfl) ?_
      refine wl_nil (x_then (hK9 _ _ ?_))
      clear hK9 K9
      refine c_ret (x_thenR ?_)
      refine bp_ret Tryz.results29 rfl ?_
      exact ⟨⟨_, er.1, er.2, rfl, by rw [hE]; exact ⟨rfl, rfl, rfl⟩⟩, V, hF⟩
    · skip
      obtain ⟨hw, -, -, -, -⟩ := engT_ok hE
      have hch := scanAll_chain (s := s) hw 0
      generalize hL : scanAll s r 0 = L at hch
      have hLl := chain_len L 0 hch (by omega)
      refine c_reg ?_ -- region 3 findm.go:106
      refine wl (ro_move rfl) ?_
      refine wl (ro_move rfl) ?_
      refine wl (ro_move rfl) ?_
      refine wl_call rfl en_24 (FindAll24 V hn hpm hsm) ?_
      rintro _ w1 ⟨⟨VA, e1, q1, rfl, hP⟩, V, F1⟩
      rw [hE] at hP
      obtain ⟨rfl, rfl, hVA⟩ := hP
      rw [hL] at hVA
      replace hF := hF.trans F1
      have hs1 := hF.size
      obtain ⟨aA, cA, rfl⟩ := hVA.own.form
      refine wl (ro_move rfl) ?_
      refine wl (ro_extract rfl rfl) ?_
      refine wl (ro_extract rfl rfl) ?_
      refine wl (ro_extract rfl rfl) ?_
      refine wl (ro_assign rfl) ?_
      refine wl (ro_assign rfl) ?_
      refine wl (ro_assign rfl) ?_
      refine wl_nil (x_then (hK6 _ _ ?_))
      clear hK6 K6
      refine c_seq (fun K10 hK10 => ?_)
      refine c_seq (fun K11 hK11 => ?_)
      refine c_reg ?_ -- region 4 findm.go:107
      refine wl (ro_move rfl) ?_
      refine wl (ro_cmp rfl rfl rfl) ?_
      refine wl_nil (x_then (hK11 _ _ ?_))
      clear hK11 K11
      refine wc_condF rfl ?_
      refine c_skip (x_then (hK10 _ _ ?_))
      clear hK10 K10
      refine forget [(2, _), (9, _)] ⟨rfl, rfl, trivial⟩ (fun e => ?_)
      refine c_seq (fun K12 hK12 => ?_)
      refine c_reg ?_ -- region 6 findm.go:110
      refine wl (ro_assign rfl) ?_
      refine wl_nil (x_then (hK12 _ _ ?_))
      clear hK12 K12
      refine forget [(2, _), (9, _), (12, _)] ⟨rfl, rfl, rfl, trivial⟩ (fun e => ?_)
      refine c_seq (fun K13 hK13 => ?_)
      refine c_reg ?_ -- region 7 findm.go:111
      refine wl (ro_assign rfl) ?_
      refine wl_nil (x_then (hK13 _ _ ?_))
      clear hK13 K13
      refine c_seq (fun K14 hK14 => ?_)
      refine c_seq (fun K15 hK15 => ?_)
      refine c_reg ?_ -- region 8 findm.go:112
      refine wl (ro_assign rfl) ?_
      refine wl_nil (x_then (hK15 _ _ ?_))
      clear hK15 K15
      refine c_block ?_
      -- loop@r9: live slots [2, 9, 12, 13, 14]
      refine c_loopG (fun m a' w' => ∃ (k last ic : Nat) (VT : Value) (O : List (List UInt8)), m = L.length - k ∧ k ≤ L.length ∧ O.length = k ∧ last ≤ ic ∧ last ≤ s.length ∧ ChainOK s.length ic (L.drop k) ∧ O ++ splF s (L.drop k) last = splF s L 0 ∧ w1.heap.size ≤ w'.heap.size ∧ TL w' VT O w1.heap.size w'.heap.size ∧ CL w' (.slice aA L.length cA) L w.heap.size w1.heap.size ∧ FMV w' fb E (n + 600) ∧ Fram (mset E) w w' ∧ ∃ e, a' = Fr 64 (upds e [(2, S s), (9, .slice aA L.length cA), (12, VT), (13, i64c last), (14, i64c k)]) []) L.length ⟨0, 0, 0, .slice none 0 0, [], rfl, by omega, rfl, by omega, by omega, hch, rfl, Nat.le_refl _, RWV.nil _ _ _ _ _ _, hVA, V, hF, kp _ ⟨rfl, rfl, rfl, rfl, rfl, trivial⟩⟩ ?_
      clear hVA V hF
      rintro m a' w2 ⟨k, last, ic, VT, O, rfl, hk, hOk, hlic, hlast, hchk, hO, hw12, hVT, hVA, V, hF, e, rfl⟩
      refine c_seq (fun K16 hK16 => ?_)
      refine c_seq (fun K17 hK17 => ?_)
      refine c_reg ?_ -- region 9 findm.go:112
      refine wl (ro_move rfl) ?_
      refine wl (ro_move rfl) ?_
      refine wl (ro_lenL rfl se_27) ?_
      refine wl (ro_cmp (r := decide (k < L.length)) rfl rfl (congrArg some (decide_eq_decide.2 (by omega)))) ?_
      refine wl_nil (x_then (hK17 _ _ ?_))
      clear hK17 K17
      refine wc_cond rfl (fun hc38 => ?_) (fun hc38 => ?_)
      · try simp only [decide_eq_true_eq, decide_eq_false_iff_not, Bool.not_eq_true', Bool.not_eq_false', Bool.not_eq_eq_eq_not, Bool.not_true, Bool.not_false, beq_iff_eq, bne_iff_ne, ne_eq, beq_eq_false_iff_ne, bne_eq_false_iff_eq, gt_iff_lt, ge_iff_le, Int.not_lt, Int.not_le] at hc38
        obtain ⟨c, hc⟩ : ∃ c, L[k]? = some c := ⟨_, List.getElem?_eq_getElem hc38⟩
        rw [drop_consA hc] at hchk hO
        obtain ⟨hmo, hchk⟩ := hchk
        obtain ⟨hk0, hk1, hk2, hk3, hk4, hk5, hk6⟩ := hmo.cap
        have hc0 : c.getD 0 0 = (capB c : Int) := by rw [List.getD, hk0]; rfl
        have hc1 : c.getD 1 0 = (capE c : Int) := by rw [List.getD, hk1]; rfl
        obtain ⟨gb, gcap, l, hVV, hGB, hgc, hgl, hg1, hg2, hga⟩ := hVA.at capc_len hc
        cases hVV
        have hcell0 : l[0 + k * 8 + 0 * 1]? = some (i64c (capB c)) := (row_cell (hga k c hc) (show (capc c)[0]? = some (icv (c.getD 0 0)) from rfl)).trans (congrArg (fun z => some (icv z)) hc0)
        have hcell1 : l[0 + k * 8 + 1 * 1]? = some (i64c (capE c)) := (row_cell (hga k c hc) (show (capc c)[1]? = some (icv (c.getD 1 0)) from rfl)).trans (congrArg (fun z => some (icv z)) hc1)
        simp only [splF] at hO
        refine c_skip (x_then (hK16 _ _ ?_))
        clear hK16 K16
        refine forget [(2, _), (9, _), (12, _), (13, _), (14, _)] ⟨rfl, rfl, rfl, rfl, rfl, trivial⟩ (fun e => ?_)
        refine c_seq (fun K18 hK18 => ?_)
        refine c_block ?_
        refine c_seq (fun K19 hK19 => ?_)
        refine c_reg ?_ -- region 11 findm.go:113
        refine wl (ro_move rfl) ?_
        refine wl (ro_move rfl) ?_
        refine wl (ro_move rfl) ?_
        refine wl (ro_move rfl) ?_
        refine wl (ro_move rfl) ?_
        refine wl (ro_indexAddr (et := 55) (k := 8) rfl rfl se_27 (rfl) (hc38)) ?_
        refine wl (ro_indexAddrA (et := 3) (k := 1) rfl rfl ar_55 (rfl) ((by omega : 0 < 8))) ?_
        refine wl (ro_loadB rfl sc_3 (hGB) (hcell0)) ?_
        refine wl (ro_sliceSLH (l := last) (h := capB c) rfl rfl rfl st_9 rfl rfl (by omega) (by omega)) ?_
        skip
        refine wl_bsapp (cs := [S (cut s last (capB c))]) rfl rfl rfl rfl se_31 zx_9 by_9 rfl rfl (st_len _) (st_cells _) hVT.own (by omega) (by omega) (fun VX w9 hon9 F9 hnb9 ↦ ?_)
        have hs29 := F9.size
        have hnw : ∀ b, own1 VT b → w1.heap.size ≤ b := fun b hb => hVT.lo' b hb
        have hVT9 : TL w9 VX (O ++ [cut s last (capB c)]) w1.heap.size w9.heap.size := hVT.app hon9 hnb9 hw12 (Nat.le_refl _)
        replace hVA := hVA.framS F9 (fun b h1 h2 h ↦ by have := hnw b h; omega)
        replace hGB := F9.blkF hGB (fun h ↦ by have := hnw _ h; omega)
        replace V := V.fram F9 (fun h ↦ by have := hnw _ h; omega) (fun k hk h ↦ by have := hnw k h; have := hl k hk; omega)
        replace hF := hF.transG F9 (fun k hk h ↦ by have := hnw k h; omega)
        refine wl (ro_assign rfl) ?_
        refine wl_nil (x_then (hK19 _ _ ?_))
        clear hK19 K19
        refine c_reg ?_ -- region 12 findm.go:114
        refine wl (ro_move rfl) ?_
        refine wl (ro_move rfl) ?_
        refine wl (ro_indexAddr (et := 55) (k := 8) rfl rfl se_27 (rfl) (hc38)) ?_
        refine wl (ro_indexAddrA (et := 3) (k := 1) rfl rfl ar_55 (rfl) ((by omega : 1 < 8))) ?_
        refine wl (ro_loadB rfl sc_3 (hGB) (hcell1)) ?_
        refine wl (ro_assign rfl) ?_
        refine wl_nil (x_blk (x_then (hK18 _ _ ?_)))
        clear hK18 K18
        refine c_reg ?_ -- region 10 findm.go:112
        refine wl (ro_move rfl) ?_
        refine wl (ro_arith rfl rfl rfl (Go.IntWalk.i64_in _ (by omega))) ?_
        refine wl (ro_assign rfl) ?_
        refine wl_nil (x_then ?_)
        exact ⟨L.length - (k + 1), by omega, k + 1, capE c, nextF c, VX, _, rfl, by omega, by rw [List.length_append, hOk]; rfl, by omega, by omega, hchk, by rw [List.append_assoc]; exact hO, by omega, hVT9, hVA, V, hF, kp _ ⟨rfl, rfl, rfl, rfl, rfl, trivial⟩⟩
      · try simp only [decide_eq_true_eq, decide_eq_false_iff_not, Bool.not_eq_true', Bool.not_eq_false', Bool.not_eq_eq_eq_not, Bool.not_true, Bool.not_false, beq_iff_eq, bne_iff_ne, ne_eq, beq_eq_false_iff_ne, bne_eq_false_iff_eq, gt_iff_lt, ge_iff_le, Int.not_lt, Int.not_le] at hc38
        refine c_exit (x_thenX (x_thenX (x_blkX (x_then (hK14 _ _ ?_)))))
        clear hK16 K16 hK14 K14
        refine forget [(2, _), (12, _), (13, _)] ⟨rfl, rfl, rfl, trivial⟩ (fun e => ?_)
        refine c_seq (fun K20 hK20 => ?_)
        have hke : k = L.length := by omega
        subst hke
        rw [List.drop_length] at hO
        simp only [splF] at hO
        refine c_reg ?_ -- region 13 findm.go:116
        refine wl (ro_move rfl) ?_
        refine wl (ro_move rfl) ?_
        refine wl (ro_move rfl) ?_
        refine wl (ro_sliceSL (l := last) rfl rfl st_9 rfl (by omega)) ?_
        skip
        refine wl_bsapp (cs := [S (s.drop last)]) rfl rfl rfl rfl se_31 zx_9 by_9 rfl rfl (st_len _) (st_cells _) hVT.own (by omega) (by omega) (fun VX w9 hon9 F9 hnb9 ↦ ?_)
        have hnw : ∀ b, own1 VT b → w1.heap.size ≤ b := fun b hb => hVT.lo' b hb
        have hVT9 : TL w9 VX (O ++ [s.drop last]) w1.heap.size w9.heap.size := hVT.app hon9 hnb9 hw12 (Nat.le_refl _)
        replace V := V.fram F9 (fun h ↦ by have := hnw _ h; omega) (fun k hk h ↦ by have := hnw k h; have := hl k hk; omega)
        replace hF := hF.transG F9 (fun k hk h ↦ by have := hnw k h; omega)
        refine wl (ro_assign rfl) ?_
        refine wl_nil (x_then (hK20 _ _ ?_))
        clear hK20 K20
        refine forget [(12, _)] ⟨rfl, trivial⟩ (fun e => ?_)
        refine c_seq (fun K21 hK21 => ?_)
        refine c_reg ?_ -- region 14 findm.go:117
        refine wl (ro_move rfl) ?_
        refine wl (ro_assign rfl) ?_
        refine wl (ro_assign rfl) ?_
        refine wl (ro_assign rfl) ?_
        refine wl_nil (x_then (hK21 _ _ ?_))
        clear hK21 K21
        refine c_ret ?_
        refine bp_ret Tryz.results29 rfl ?_
        rw [hO] at hVT9
        exact ⟨⟨_, 0, 0, rfl, by rw [hE]; exact ⟨rfl, rfl, by rw [hL]; exact hVT9.wide hs1 (Nat.le_refl _)⟩⟩, V, hF⟩

/-- What Replace answers. -/
def repT (p s t : List UInt8) : List UInt8 × Nat × Nat := if 128 < p.length ∨ 256 < s.length ∨ 32 < t.length then ([], 12, 0) else match engT p s with
  | .error e => ([], e.1, e.2)
  | .ok r => match badF t 0 with
    | some i => ([], 11, i)
    | none => (repF s t (scanAll s r 0) 0, 0, 0)

abbrev repV (x : List UInt8 × Nat × Nat) : Value := .tuple #[S x.1, i64c x.2.1, i64c x.2.2]

theorem repF_len {s t : List UInt8} (hs : s.length ≤ 256) (ht : t.length ≤ 32) : ∀ (L : List (List Int)) (last : Nat), (repF s t L last).length ≤ (L.length + 1) * 10000
  | [], last => by simp [repF]; omega
  | c :: L, last => by
    have ih := repF_len hs ht L (capE c)
    have h1 := exF_len (c := c) hs t.length t (Nat.le_refl _)
    have h3 : (cut s last (capB c)).length ≤ 256 := by simp only [List.length_take, List.length_drop]; omega
    have e : repF s t (c :: L) last = cut s last (capB c) ++ exF s c t ++ repF s t L (capE c) := rfl
    have h4 : t.length * 257 ≤ 32 * 257 := Nat.mul_le_mul_right _ ht
    rw [e, List.length_append, List.length_append, List.length_cons]
    omega

set_option maxHeartbeats 4000000 in
theorem Replace27 {w : World} {fb n : Nat} {E : MB} {p s t : List UInt8} (V : FMV w fb E n) (hn : n < 100000000000000) (hpm : p.length ≤ 9223372036854775807) (hsm : s.length ≤ 9223372036854775807) (htm : t.length ≤ 9223372036854775807) :
    Ret Tryz.prog 27 [ptr fb, S p, S s, S t] w (fun v w' => v = repV (repT p s t) ∧ FMV w' fb E (n + 600) ∧ Fram (mset E) w w') := by
  have hF : Fram (mset E) w w := Fram.refl _ _
  have hl := V.eng.lt
  have hl2 := V.blk.lt
  refine ret_of Tryz.func27 rfl Tryz.ntmps27 rfl ?_
  refine c_seq (fun K1 hK1 => ?_)
  refine c_reg ?_ -- region 0 findm.go:80
  refine wl (ro_assign rfl) ?_
  refine wl (ro_assign rfl) ?_
  refine wl (ro_assign rfl) ?_
  refine wl_nil (x_then (hK1 _ _ ?_))
  clear hK1 K1
  refine c_seq (fun K2 hK2 => ?_)
  refine c_seq (fun K3 hK3 => ?_)
  have hql : 128 < p.length ∨ (p.length ≤ 128 ∧ 256 < s.length) ∨ (p.length ≤ 128 ∧ s.length ≤ 256 ∧ 32 < t.length) ∨ (p.length ≤ 128 ∧ s.length ≤ 256 ∧ t.length ≤ 32) := by omega
  rcases hql with q | q | q | q
  · skip
    have hR : repT p s t = ([], 12, 0) := by unfold repT; rw [if_pos (by omega)]
    refine c_reg ?_ -- region 1 findm.go:81
    refine wl (ro_move rfl) ?_
    refine wl (ro_lenS rfl st_9) ?_
    refine wl (ro_cmp (r := true) rfl rfl (congrArg some (decide_eq_true (by omega)))) ?_
    refine wl (ro_move rfl) ?_
    refine wlg_no rfl ?_
    refine wlg_no rfl ?_
    refine wlg_no rfl ?_
    refine wl (ro_pick rfl rfl rfl) ?_
    refine wl (ro_move rfl) ?_
    refine wlg_no rfl ?_
    refine wlg_no rfl ?_
    refine wlg_no rfl ?_
    refine wl (ro_pick rfl rfl rfl) ?_
    refine wl_nil (x_then (hK3 _ _ ?_))
    clear hK3 K3
    refine wc_condT rfl ?_
    refine c_seq (fun K4 hK4 => ?_)
    refine c_reg ?_ -- region 2 findm.go:82
    refine wl (ro_assign rfl) ?_
    refine wl (ro_assign rfl) ?_
    refine wl (ro_assign rfl) ?_
    refine wl_nil (x_then (hK4 _ _ ?_))
    clear hK4 K4
    refine c_ret (x_thenR ?_)
    refine bp_ret Tryz.results27 rfl ?_
    rw [hR]; exact ⟨rfl, ⟨V.blk, V.eng.up (by omega), V.ord, V.ef⟩, hF⟩
  · skip
    have hR : repT p s t = ([], 12, 0) := by unfold repT; rw [if_pos (by omega)]
    refine c_reg ?_ -- region 1 findm.go:81
    refine wl (ro_move rfl) ?_
    refine wl (ro_lenS rfl st_9) ?_
    refine wl (ro_cmp (r := false) rfl rfl (congrArg some (decide_eq_false (by omega)))) ?_
    refine wl (ro_move rfl) ?_
    refine wlg_yes rfl (ro_move rfl) ?_
    refine wlg_yes rfl (ro_lenS rfl st_9) ?_
    refine wlg_yes rfl (ro_cmp (r := true) rfl rfl (congrArg some (decide_eq_true (by omega)))) ?_
    refine wl (ro_pick rfl rfl rfl) ?_
    refine wl (ro_move rfl) ?_
    refine wlg_no rfl ?_
    refine wlg_no rfl ?_
    refine wlg_no rfl ?_
    refine wl (ro_pick rfl rfl rfl) ?_
    refine wl_nil (x_then (hK3 _ _ ?_))
    clear hK3 K3
    refine wc_condT rfl ?_
    refine c_seq (fun K5 hK5 => ?_)
    refine c_reg ?_ -- region 2 findm.go:82
    refine wl (ro_assign rfl) ?_
    refine wl (ro_assign rfl) ?_
    refine wl (ro_assign rfl) ?_
    refine wl_nil (x_then (hK5 _ _ ?_))
    clear hK5 K5
    refine c_ret (x_thenR ?_)
    refine bp_ret Tryz.results27 rfl ?_
    rw [hR]; exact ⟨rfl, ⟨V.blk, V.eng.up (by omega), V.ord, V.ef⟩, hF⟩
  · skip
    have hR : repT p s t = ([], 12, 0) := by unfold repT; rw [if_pos (by omega)]
    refine c_reg ?_ -- region 1 findm.go:81
    refine wl (ro_move rfl) ?_
    refine wl (ro_lenS rfl st_9) ?_
    refine wl (ro_cmp (r := false) rfl rfl (congrArg some (decide_eq_false (by omega)))) ?_
    refine wl (ro_move rfl) ?_
    refine wlg_yes rfl (ro_move rfl) ?_
    refine wlg_yes rfl (ro_lenS rfl st_9) ?_
    refine wlg_yes rfl (ro_cmp (r := false) rfl rfl (congrArg some (decide_eq_false (by omega)))) ?_
    refine wl (ro_pick rfl rfl rfl) ?_
    refine wl (ro_move rfl) ?_
    refine wlg_yes rfl (ro_move rfl) ?_
    refine wlg_yes rfl (ro_lenS rfl st_9) ?_
    refine wlg_yes rfl (ro_cmp (r := true) rfl rfl (congrArg some (decide_eq_true (by omega)))) ?_
    refine wl (ro_pick rfl rfl rfl) ?_
    refine wl_nil (x_then (hK3 _ _ ?_))
    clear hK3 K3
    refine wc_condT rfl ?_
    refine c_seq (fun K6 hK6 => ?_)
    refine c_reg ?_ -- region 2 findm.go:82
    refine wl (ro_assign rfl) ?_
    refine wl (ro_assign rfl) ?_
    refine wl (ro_assign rfl) ?_
    refine wl_nil (x_then (hK6 _ _ ?_))
    clear hK6 K6
    refine c_ret (x_thenR ?_)
    refine bp_ret Tryz.results27 rfl ?_
    rw [hR]; exact ⟨rfl, ⟨V.blk, V.eng.up (by omega), V.ord, V.ef⟩, hF⟩
  · skip
    refine c_reg ?_ -- region 1 findm.go:81
    refine wl (ro_move rfl) ?_
    refine wl (ro_lenS rfl st_9) ?_
    refine wl (ro_cmp (r := false) rfl rfl (congrArg some (decide_eq_false (by omega)))) ?_
    refine wl (ro_move rfl) ?_
    refine wlg_yes rfl (ro_move rfl) ?_
    refine wlg_yes rfl (ro_lenS rfl st_9) ?_
    refine wlg_yes rfl (ro_cmp (r := false) rfl rfl (congrArg some (decide_eq_false (by omega)))) ?_
    refine wl (ro_pick rfl rfl rfl) ?_
    refine wl (ro_move rfl) ?_
    refine wlg_yes rfl (ro_move rfl) ?_
    refine wlg_yes rfl (ro_lenS rfl st_9) ?_
    refine wlg_yes rfl (ro_cmp (r := false) rfl rfl (congrArg some (decide_eq_false (by omega)))) ?_
    refine wl (ro_pick rfl rfl rfl) ?_
    refine wl_nil (x_then (hK3 _ _ ?_))
    clear hK3 K3
    refine wc_condF rfl ?_
    refine c_skip (x_then (hK2 _ _ ?_))
    clear hK2 K2
    refine forget [(0, _), (1, _), (2, _), (3, _)] ⟨rfl, rfl, rfl, rfl, trivial⟩ (fun e => ?_)
    refine c_seq (fun K7 hK7 => ?_)
    rcases hE : engT p s with er | r
    · skip
      have hen := engT_er hE
      have hR : repT p s t = ([], er.1, er.2) := by unfold repT; rw [if_neg (by omega), hE]
      refine c_reg ?_ -- region 3 findm.go:84
      refine wl (ro_move rfl) ?_
      refine wl (ro_move rfl) ?_
      refine wl (ro_move rfl) ?_
      refine wl_call rfl en_24 (FindAll24 V hn hpm hsm) ?_
      rintro _ w1 ⟨⟨VA, e1, q1, rfl, hP⟩, V, F1⟩
      rw [hE] at hP
      obtain ⟨rfl, rfl, rfl⟩ := hP
      replace hF := hF.trans F1
      refine wl (ro_move rfl) ?_
      refine wl (ro_extract rfl rfl) ?_
      refine wl (ro_extract rfl rfl) ?_
      refine wl (ro_extract rfl rfl) ?_
      refine wl (ro_assign rfl) ?_
      refine wl (ro_assign rfl) ?_
      refine wl (ro_assign rfl) ?_
      refine wl_nil (x_then (hK7 _ _ ?_))
      clear hK7 K7
      refine c_seq (fun K8 hK8 => ?_)
      refine c_seq (fun K9 hK9 => ?_)
      refine c_reg ?_ -- region 4 findm.go:85
      refine wl (ro_move rfl) ?_
      refine wl (ro_cmp (r := true) rfl rfl (congrArg some ((bnec er.1 0).trans (decide_eq_true hen)))) ?_
      refine wl_nil (x_then (hK9 _ _ ?_))
      clear hK9 K9
      refine wc_condT rfl ?_
      refine c_seq (fun K10 hK10 => ?_)
      refine c_reg ?_ -- region 5 findm.go:86
      refine wl (ro_move rfl) ?_
      refine wl (ro_move rfl) ?_
      refine wl (ro_assign rfl) ?_
      refine wl (ro_assign rfl) ?_
      refine wl (ro_assign rfl) ?_
      refine wl_nil (x_then (hK10 _ _ ?_))
      clear hK10 K10
      refine c_ret (x_thenR ?_)
      refine bp_ret Tryz.results27 rfl ?_
      rw [hR]; exact ⟨rfl, V, hF⟩
    · skip
      obtain ⟨hw, -, -, -, -⟩ := engT_ok hE
      have hR : repT p s t = match badF t 0 with | some i => ([], 11, i) | none => (repF s t (scanAll s r 0) 0, 0, 0) := by unfold repT; rw [if_neg (by omega), hE]
      have hch := scanAll_chain (s := s) hw 0
      generalize hL : scanAll s r 0 = L at hch hR
      have hLl := chain_len L 0 hch (by omega)
      have htot := repF_len (s := s) (t := t) q.2.1 q.2.2 L 0
      refine c_reg ?_ -- region 3 findm.go:84
      refine wl (ro_move rfl) ?_
      refine wl (ro_move rfl) ?_
      refine wl (ro_move rfl) ?_
      refine wl_call rfl en_24 (FindAll24 V hn hpm hsm) ?_
      rintro _ w1 ⟨⟨VA, e1, q1, rfl, hP⟩, V, F1⟩
      rw [hE] at hP
      obtain ⟨rfl, rfl, hVA⟩ := hP
      rw [hL] at hVA
      replace hF := hF.trans F1
      have hs1 := hF.size
      obtain ⟨aA, cA, rfl⟩ := hVA.own.form
      refine wl (ro_move rfl) ?_
      refine wl (ro_extract rfl rfl) ?_
      refine wl (ro_extract rfl rfl) ?_
      refine wl (ro_extract rfl rfl) ?_
      refine wl (ro_assign rfl) ?_
      refine wl (ro_assign rfl) ?_
      refine wl (ro_assign rfl) ?_
      refine wl_nil (x_then (hK7 _ _ ?_))
      clear hK7 K7
      refine c_seq (fun K11 hK11 => ?_)
      refine c_seq (fun K12 hK12 => ?_)
      refine c_reg ?_ -- region 4 findm.go:85
      refine wl (ro_move rfl) ?_
      refine wl (ro_cmp rfl rfl rfl) ?_
      refine wl_nil (x_then (hK12 _ _ ?_))
      clear hK12 K12
      refine wc_condF rfl ?_
      refine c_skip (x_then (hK11 _ _ ?_))
      clear hK11 K11
      refine forget [(2, _), (3, _), (11, _)] ⟨rfl, rfl, rfl, trivial⟩ (fun e => ?_)
      refine c_seq (fun K13 hK13 => ?_)
      rcases hbd : badF t 0 with _ | bi
      · skip
        rw [hbd] at hR
        have hcall := badAt43 (w := w1) (t := t) (by omega)
        rw [hbd] at hcall
        refine c_reg ?_ -- region 6 findm.go:88
        refine wl (ro_move rfl) ?_
        refine wl_call rfl en_43 (hcall) ?_
        rintro _ _ ⟨rfl, rfl⟩
        refine wl (ro_assign rfl) ?_
        refine wl_nil (x_then (hK13 _ _ ?_))
        clear hK13 K13
        refine c_seq (fun K14 hK14 => ?_)
        refine c_seq (fun K15 hK15 => ?_)
        refine c_reg ?_ -- region 7 findm.go:89
        refine wl (ro_move rfl) ?_
        refine wl (ro_cmp (r := false) rfl rfl rfl) ?_
        refine wl_nil (x_then (hK15 _ _ ?_))
        clear hK15 K15
        refine wc_condF rfl ?_
        refine c_skip (x_then (hK14 _ _ ?_))
        clear hK14 K14
        refine forget [(2, _), (3, _), (11, _)] ⟨rfl, rfl, rfl, trivial⟩ (fun e => ?_)
        refine c_seq (fun K16 hK16 => ?_)
        refine c_reg ?_ -- region 9 findm.go:92
        refine wl (ro_assign rfl) ?_
        refine wl_nil (x_then (hK16 _ _ ?_))
        clear hK16 K16
        refine forget [(2, _), (3, _), (11, _), (15, _)] ⟨rfl, rfl, rfl, rfl, trivial⟩ (fun e => ?_)
        refine c_seq (fun K17 hK17 => ?_)
        refine c_reg ?_ -- region 10 findm.go:93
        refine wl (ro_assign rfl) ?_
        refine wl_nil (x_then (hK17 _ _ ?_))
        clear hK17 K17
        refine c_seq (fun K18 hK18 => ?_)
        refine c_seq (fun K19 hK19 => ?_)
        refine c_reg ?_ -- region 11 findm.go:94
        refine wl (ro_assign rfl) ?_
        refine wl_nil (x_then (hK19 _ _ ?_))
        clear hK19 K19
        refine c_block ?_
        -- loop@r12: live slots [2, 3, 11, 15, 16, 17]
        refine c_loopG (fun m a' w' => ∃ (k last ic : Nat) (O : List UInt8), m = L.length - k ∧ k ≤ L.length ∧ last ≤ ic ∧ last ≤ s.length ∧ ChainOK s.length ic (L.drop k) ∧ O ++ repF s t (L.drop k) last = repF s t L 0 ∧ CL w' (.slice aA L.length cA) L w.heap.size w1.heap.size ∧ FMV w' fb E (n + 600) ∧ Fram (mset E) w w' ∧ ∃ e, a' = Fr 84 (upds e [(2, S s), (3, S t), (11, .slice aA L.length cA), (15, S O), (16, i64c last), (17, i64c k)]) []) L.length ⟨0, 0, 0, [], rfl, by omega, by omega, by omega, hch, rfl, hVA, V, hF, kp _ ⟨rfl, rfl, rfl, rfl, rfl, rfl, trivial⟩⟩ ?_
        clear hVA V hF
        rintro m a' w2 ⟨k, last, ic, O, rfl, hk, hlic, hlast, hchk, hO, hVA, V, hF, e, rfl⟩
        have hOl := congrArg List.length hO
        rw [List.length_append] at hOl
        refine c_seq (fun K20 hK20 => ?_)
        refine c_seq (fun K21 hK21 => ?_)
        refine c_reg ?_ -- region 12 findm.go:94
        refine wl (ro_move rfl) ?_
        refine wl (ro_move rfl) ?_
        refine wl (ro_lenL rfl se_27) ?_
        refine wl (ro_cmp (r := decide (k < L.length)) rfl rfl (congrArg some (decide_eq_decide.2 (by omega)))) ?_
        refine wl_nil (x_then (hK21 _ _ ?_))
        clear hK21 K21
        refine wc_cond rfl (fun hc52 => ?_) (fun hc52 => ?_)
        · try simp only [decide_eq_true_eq, decide_eq_false_iff_not, Bool.not_eq_true', Bool.not_eq_false', Bool.not_eq_eq_eq_not, Bool.not_true, Bool.not_false, beq_iff_eq, bne_iff_ne, ne_eq, beq_eq_false_iff_ne, bne_eq_false_iff_eq, gt_iff_lt, ge_iff_le, Int.not_lt, Int.not_le] at hc52
          obtain ⟨c, hc⟩ : ∃ c, L[k]? = some c := ⟨_, List.getElem?_eq_getElem hc52⟩
          rw [drop_consA hc] at hchk hO hOl
          obtain ⟨hmo, hchk⟩ := hchk
          obtain ⟨hk0, hk1, hk2, hk3, hk4, hk5, hk6⟩ := hmo.cap
          have hc0 : c.getD 0 0 = (capB c : Int) := by rw [List.getD, hk0]; rfl
          have hc1 : c.getD 1 0 = (capE c : Int) := by rw [List.getD, hk1]; rfl
          obtain ⟨gb, gcap, l, hVV, hGB, hgc, hgl, hg1, hg2, hga⟩ := hVA.at capc_len hc
          cases hVV
          have hcell0 : l[0 + k * 8 + 0 * 1]? = some (i64c (capB c)) := (row_cell (hga k c hc) (show (capc c)[0]? = some (icv (c.getD 0 0)) from rfl)).trans (congrArg (fun z => some (icv z)) hc0)
          have hcell1 : l[0 + k * 8 + 1 * 1]? = some (i64c (capE c)) := (row_cell (hga k c hc) (show (capc c)[1]? = some (icv (c.getD 1 0)) from rfl)).trans (congrArg (fun z => some (icv z)) hc1)
          simp only [repF] at hO hOl
          rw [List.length_append, List.length_append] at hOl
          refine c_skip (x_then (hK20 _ _ ?_))
          clear hK20 K20
          refine forget [(2, _), (3, _), (11, _), (15, _), (16, _), (17, _)] ⟨rfl, rfl, rfl, rfl, rfl, rfl, trivial⟩ (fun e => ?_)
          refine c_seq (fun K22 hK22 => ?_)
          refine c_block ?_
          refine c_seq (fun K23 hK23 => ?_)
          refine c_reg ?_ -- region 14 findm.go:95
          refine wl (ro_move rfl) ?_
          refine wl (ro_move rfl) ?_
          refine wl (ro_move rfl) ?_
          refine wl (ro_move rfl) ?_
          refine wl (ro_indexAddr (et := 55) (k := 8) rfl rfl se_27 (rfl) (hc52)) ?_
          refine wl (ro_loadAggB rfl ag_55 (hGB) (rfl) ((hga k c hc))) ?_
          refine wl_call rfl en_44 (expand44 q.2.2 q.2.1 hmo hbd) ?_
          rintro _ w3 ⟨rfl, F3⟩
          replace hVA := hVA.framN F3
          replace hGB := F3.blkN hGB
          replace V := V.fram F3 (fun h ↦ h) (fun k hk h ↦ h)
          replace hF := hF.thenN F3
          refine wl (ro_assign rfl) ?_
          refine wl_nil (x_then (hK23 _ _ ?_))
          clear hK23 K23
          refine forget [(2, _), (3, _), (11, _), (15, _), (16, _), (17, _), (18, _)] ⟨rfl, rfl, rfl, rfl, rfl, rfl, rfl, trivial⟩ (fun e => ?_)
          refine c_seq (fun K24 hK24 => ?_)
          refine c_reg ?_ -- region 15 findm.go:96
          refine wl (ro_move rfl) ?_
          refine wl (ro_move rfl) ?_
          refine wl (ro_move rfl) ?_
          refine wl (ro_move rfl) ?_
          refine wl (ro_move rfl) ?_
          refine wl (ro_indexAddr (et := 55) (k := 8) rfl rfl se_27 (rfl) (hc52)) ?_
          refine wl (ro_indexAddrA (et := 3) (k := 1) rfl rfl ar_55 (rfl) ((by omega : 0 < 8))) ?_
          refine wl (ro_loadB rfl sc_3 (hGB) (hcell0)) ?_
          refine wl (ro_sliceSLH (l := last) (h := capB c) rfl rfl rfl st_9 rfl rfl (by omega) (by omega)) ?_
          refine wl (ro_catS rfl rfl (by show O.length + (cut s last (capB c)).length ≤ _; omega)) ?_
          refine wl (ro_move rfl) ?_
          refine wl (ro_catS rfl rfl (by rw [List.length_append]; show O.length + (cut s last (capB c)).length + (exF s c t).length ≤ _; omega)) ?_
          refine wl (ro_assign rfl) ?_
          refine wl_nil (x_then (hK24 _ _ ?_))
          clear hK24 K24
          refine c_reg ?_ -- region 16 findm.go:97
          refine wl (ro_move rfl) ?_
          refine wl (ro_move rfl) ?_
          refine wl (ro_indexAddr (et := 55) (k := 8) rfl rfl se_27 (rfl) (hc52)) ?_
          refine wl (ro_indexAddrA (et := 3) (k := 1) rfl rfl ar_55 (rfl) ((by omega : 1 < 8))) ?_
          refine wl (ro_loadB rfl sc_3 (hGB) (hcell1)) ?_
          refine wl (ro_assign rfl) ?_
          refine wl_nil (x_blk (x_then (hK22 _ _ ?_)))
          clear hK22 K22
          refine c_reg ?_ -- region 13 findm.go:94
          refine wl (ro_move rfl) ?_
          refine wl (ro_arith rfl rfl rfl (Go.IntWalk.i64_in _ (by omega))) ?_
          refine wl (ro_assign rfl) ?_
          refine wl_nil (x_then ?_)
          exact ⟨L.length - (k + 1), by omega, k + 1, capE c, nextF c, _, rfl, by omega, by omega, by omega, hchk, by rw [← hO]; simp only [List.append_assoc], hVA, V, hF, kp _ ⟨rfl, rfl, rfl, rfl, rfl, rfl, trivial⟩⟩
        · try simp only [decide_eq_true_eq, decide_eq_false_iff_not, Bool.not_eq_true', Bool.not_eq_false', Bool.not_eq_eq_eq_not, Bool.not_true, Bool.not_false, beq_iff_eq, bne_iff_ne, ne_eq, beq_eq_false_iff_ne, bne_eq_false_iff_eq, gt_iff_lt, ge_iff_le, Int.not_lt, Int.not_le] at hc52
          refine c_exit (x_thenX (x_thenX (x_blkX (x_then (hK18 _ _ ?_)))))
          clear hK20 K20 hK18 K18
          refine forget [(2, _), (15, _), (16, _)] ⟨rfl, rfl, rfl, trivial⟩ (fun e => ?_)
          refine c_seq (fun K25 hK25 => ?_)
          have hke : k = L.length := by omega
          subst hke
          rw [List.drop_length] at hO hOl
          simp only [repF] at hO hOl
          refine c_reg ?_ -- region 17 findm.go:99
          refine wl (ro_move rfl) ?_
          refine wl (ro_move rfl) ?_
          refine wl (ro_move rfl) ?_
          refine wl (ro_sliceSL (l := last) rfl rfl st_9 rfl (by omega)) ?_
          refine wl (ro_catS rfl rfl (by omega)) ?_
          refine wl (ro_assign rfl) ?_
          refine wl (ro_assign rfl) ?_
          refine wl (ro_assign rfl) ?_
          refine wl_nil (x_then (hK25 _ _ ?_))
          clear hK25 K25
          refine c_ret ?_
          refine bp_ret Tryz.results27 rfl ?_
          rw [hR, ← hO]; exact ⟨rfl, V, hF⟩
      · skip
        rw [hbd] at hR
        have hcall := badAt43 (w := w1) (t := t) (by omega)
        rw [hbd] at hcall
        refine c_reg ?_ -- region 6 findm.go:88
        refine wl (ro_move rfl) ?_
        refine wl_call rfl en_43 (hcall) ?_
        rintro _ _ ⟨rfl, rfl⟩
        refine wl (ro_assign rfl) ?_
        refine wl_nil (x_then (hK13 _ _ ?_))
        clear hK13 K13
        refine c_seq (fun K26 hK26 => ?_)
        refine c_seq (fun K27 hK27 => ?_)
        refine c_reg ?_ -- region 7 findm.go:89
        refine wl (ro_move rfl) ?_
        refine wl (ro_cmp (r := true) rfl rfl (congrArg some (decide_eq_true (by omega)))) ?_
        refine wl_nil (x_then (hK27 _ _ ?_))
        clear hK27 K27
        refine wc_condT rfl ?_
        refine c_seq (fun K28 hK28 => ?_)
        refine c_reg ?_ -- region 8 findm.go:90
        refine wl (ro_move rfl) ?_
        refine wl (ro_assign rfl) ?_
        refine wl (ro_assign rfl) ?_
        refine wl (ro_assign rfl) ?_
        refine wl_nil (x_then (hK28 _ _ ?_))
        clear hK28 K28
        refine c_ret (x_thenR ?_)
        refine bp_ret Tryz.results27 rfl ?_
        rw [hR]; exact ⟨rfl, V, hF⟩

end Go.Proofs.Qxb6500567aGreat
