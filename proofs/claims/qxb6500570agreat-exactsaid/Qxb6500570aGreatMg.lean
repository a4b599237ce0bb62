import Derived.Test.Qxb6500570aGreatMf
/- The real book: Load and Save. -/
namespace Go.Proofs.Qxb6500570aGreat
set_option linter.unusedVariables false
set_option linter.unusedSimpArgs false

def PcI (s : Tx) (SF : List Tx) (c : Nat) (p : Nat) (nx : Int) (pc : Tx) : Prop := p ≤ s.length ∧ -1 ≤ nx ∧ nx ≤ 99 ∧ tF SF c = pc ∧ LdI s SF (c + 1) p nx
theorem nxR_bd {s : Tx} {p : Nat} {nx : Int} (h : -1 ≤ nx ∧ nx ≤ 99) : -1 ≤ nxR s p nx ∧ nxR s p nx ≤ 99 := by
  have := pr2_bd s p
  unfold nxR
  split <;> omega
theorem LdI.fit {s : Tx} {SF : List Tx} {c p : Nat} {nx : Int} (h : LdI s SF c p nx) (hp : p < s.length) : p + 5 ≤ s.length := by
  obtain ⟨f, last, S', hf, hl, h1, -⟩ := h
  obtain ⟨f, rfl⟩ : ∃ g, f = g + 1 := ⟨f - 1, by omega⟩
  obtain ⟨c', n, q, -⟩ := ld_inv h1 hp hl
  have := q.h4
  have := q.n1
  omega
/-- What follows cell c. -/
def NxQ (s : Tx) (SF : List Tx) (c p : Nat) (nx : Int) : Prop := (nx = (c : Int) ∧ ∃ n, PieceAt s SF c p n) ∨ (nx ≠ (c : Int) ∧ tF SF c = [] ∧ LdI s SF (c + 1) p nx)
set_option maxHeartbeats 16000000 in
theorem Load7 {w : World} {lo hi : Nat} {X : BB} {T : List Tx} {past next : List (List Tx)} {s : Tx} (hb : BaB lo hi X) (hhi : hi ≤ w.heap.size) (h : BaV w X T past next) :
    Ret Tryz.prog 7 [ptr X.k, S s] w (fun v w' => v = icv (ldE s) ∧ BaV w' X (ldS T s) (ldP s past) (ldP s next) ∧ Fram (rng lo hi) w w') := by
  have hF : Fram (rng lo hi) w w := Fram.refl _ _
  have hV := h
  obtain ⟨b, P, M, W, O, SL, h⟩ := h
  have hT := h.ok
  obtain ⟨hK, hP, hM, hW, hO, hwl, hR, hn6, hd, hpo, hno⟩ := id h
  have hbb := hb
  obtain ⟨hdb, b1, b2, b3, b4, b5, b6⟩ := hb
  have hlo := hdb.lom
  have hlo1 := hdb.mb
  have hlo2 := hdb.be
  have hlo3 := hdb.eh
  have hbad : ldE s ≠ 0 → ∀ r : Int, ldE s = r → icv r = icv (ldE s) ∧ BaV w X (ldS T s) (ldP s past) (ldP s next) ∧ Fram (rng lo hi) w w := fun q r hr => by
    unfold ldP
    rw [ld_err q, if_neg q, if_neg q, hr]
    exact ⟨rfl, hV, Fram.refl _ _⟩
  refine ret_of Tryz.func7 rfl Tryz.ntmps7 rfl ?_
  refine c_seq (fun K1 hK1 => ?_)
  refine c_reg ?_ -- region 0 file.go:58
  refine wl (ro_assign rfl) ?_
  refine wl_nil (x_then (hK1 _ _ ?_))
  clear hK1 K1
  refine c_seq (fun K2 hK2 => ?_)
  refine c_seq (fun K3 hK3 => ?_)
  refine c_reg ?_ -- region 1 file.go:59
  refine wl (ro_move rfl) ?_
  refine wl (ro_lenS rfl st_9) ?_
  refine wl (ro_cmp (r := decide (1056 < s.length)) rfl rfl (congrArg some (decide_eq_decide.2 (by show ((s.length : Nat) : Int) > 1056 ↔ _; omega)))) ?_
  refine wl_nil (x_then (hK3 _ _ ?_))
  clear hK3 K3
  refine wc_cond rfl (fun hc13 => ?_) (fun hc13 => ?_)
  · try simp only [decide_eq_true_eq, decide_eq_false_iff_not, Bool.not_eq_true', Bool.not_eq_false', Bool.not_eq_eq_eq_not, Bool.not_true, Bool.not_false, beq_iff_eq, bne_iff_ne, ne_eq, beq_eq_false_iff_ne, bne_eq_false_iff_eq, gt_iff_lt, ge_iff_le, Int.not_lt, Int.not_le] at hc13
    refine c_seq (fun K4 hK4 => ?_)
    refine c_reg ?_ -- region 2 file.go:60
    refine wl (ro_assign rfl) ?_
    refine wl_nil (x_then (hK4 _ _ ?_))
    clear hK4 K4
    refine c_ret (x_thenR ?_)
    refine bp_ret Tryz.results7 rfl ?_
    have e1 : ldE s = 1 := by unfold ldE; rw [if_pos hc13]
    exact hbad (by omega) 1 e1
  · try simp only [decide_eq_true_eq, decide_eq_false_iff_not, Bool.not_eq_true', Bool.not_eq_false', Bool.not_eq_eq_eq_not, Bool.not_true, Bool.not_false, beq_iff_eq, bne_iff_ne, ne_eq, beq_eq_false_iff_ne, bne_eq_false_iff_eq, gt_iff_lt, ge_iff_le, Int.not_lt, Int.not_le] at hc13
    refine c_skip (x_then (hK2 _ _ ?_))
    clear hK2 K2
    refine c_seq (fun K5 hK5 => ?_)
    refine c_seq (fun K6 hK6 => ?_)
    refine c_reg ?_ -- region 3 file.go:62
    refine wl (ro_move rfl) ?_
    refine wl_call rfl en_30 (judge30 (by omega)) ?_
    rintro _ u0 ⟨rfl, hw0⟩
    rw [hw0]
    clear hw0 u0
    refine wl (ro_not rfl) ?_
    refine wl_nil (x_then (hK6 _ _ ?_))
    clear hK6 K6
    refine wc_cond rfl (fun hc16 => ?_) (fun hc16 => ?_)
    · try simp only [decide_eq_true_eq, decide_eq_false_iff_not, Bool.not_eq_true', Bool.not_eq_false', Bool.not_eq_eq_eq_not, Bool.not_true, Bool.not_false, beq_iff_eq, bne_iff_ne, ne_eq, beq_eq_false_iff_ne, bne_eq_false_iff_eq, gt_iff_lt, ge_iff_le, Int.not_lt, Int.not_le] at hc16
      have hr0 : (ldR s).isSome = false := by simpa using hc16
      refine c_seq (fun K7 hK7 => ?_)
      refine c_reg ?_ -- region 4 file.go:63
      refine wl (ro_assign rfl) ?_
      refine wl_nil (x_then (hK7 _ _ ?_))
      clear hK7 K7
      refine c_ret (x_thenR ?_)
      refine bp_ret Tryz.results7 rfl ?_
      have e1 : ldE s = 12 := by unfold ldE; rw [if_neg (by omega), hr0]; rfl
      exact hbad (by omega) 12 e1
    · try simp only [decide_eq_true_eq, decide_eq_false_iff_not, Bool.not_eq_true', Bool.not_eq_false', Bool.not_eq_eq_eq_not, Bool.not_true, Bool.not_false, beq_iff_eq, bne_iff_ne, ne_eq, beq_eq_false_iff_ne, bne_eq_false_iff_eq, gt_iff_lt, ge_iff_le, Int.not_lt, Int.not_le] at hc16
      obtain ⟨SF, hr⟩ : ∃ SF, ldR s = some SF := Option.isSome_iff_exists.1 (by simpa using hc16)
      have hSF : TxOK SF := (ld_ok (by omega) TxOK.rep hr).1
      have hL0 := LdI.start (by omega) hr
      have hsl : s.length ≤ 1056 := by omega
      refine c_skip (x_then (hK5 _ _ ?_))
      clear hK5 K5
      refine forget [(0, _), (1, _)] ⟨rfl, rfl, trivial⟩ (fun e => ?_)
      refine c_seq (fun K8 hK8 => ?_)
      refine c_reg ?_ -- region 5 file.go:65
      refine wl (ro_assign rfl) ?_
      refine wl_nil (x_then (hK8 _ _ ?_))
      clear hK8 K8
      refine forget [(0, _), (1, _), (5, _)] ⟨rfl, rfl, rfl, trivial⟩ (fun e => ?_)
      refine c_seq (fun K9 hK9 => ?_)
      refine c_reg ?_ -- region 6 file.go:66
      refine wl (ro_assign rfl) ?_
      refine wl_nil (x_then (hK9 _ _ ?_))
      clear hK9 K9
      refine c_seq (fun K10 hK10 => ?_)
      refine c_seq (fun K11 hK11 => ?_)
      refine c_reg ?_ -- region 7 file.go:67
      refine wl (ro_assign rfl) ?_
      refine wl_nil (x_then (hK11 _ _ ?_))
      clear hK11 K11
      refine c_block ?_
      -- loop@r8: live slots [0, 1, 5, 6, 7]
      refine c_loopG (fun m a' w' => ∃ (c p : Nat) (nx : Int) (SL : List Vl), m = 24 - c ∧ c ≤ 24 ∧ p ≤ s.length ∧ (-1 ≤ nx ∧ nx ≤ 99) ∧ LdI s SF c p nx ∧ DaV w' X.D zL (mixT SF T c) SL ∧ Blk w'.heap X.k (bst X b past.length next.length) 60 ∧ Blk w'.heap X.p (rws stc P) 9 ∧ Blk w'.heap X.t (rws msc M) 85 ∧ Blk w'.heap X.s (rws stc W) 9 ∧ FB w'.heap X.o 1056 O 5 ∧ Fram (rng lo hi) w w' ∧ ∃ e, a' = Fr 69 (upds e [(0, ptr X.k), (1, S s), (5, i64c p), (6, icv nx), (7, i64c c)]) []) 24 ⟨0, 0, -1, SL, rfl, by omega, by omega, by omega, hL0, by rw [mix_zero]; exact hd, hK, hP, hM, hW, hO, hF, kp _ ⟨rfl, rfl, rfl, rfl, rfl, trivial⟩⟩ ?_
      clear hF hK hP hM hW hO hd hL0
      rintro m a' u1 ⟨c, p, nx, SL1, rfl, hc24, hps, hnx, hL, hd, hK, hP, hM, hW, hO, hF, e, rfl⟩
      have hsz := hF.size
      refine c_seq (fun K12 hK12 => ?_)
      refine c_seq (fun K13 hK13 => ?_)
      refine c_reg ?_ -- region 8 file.go:67
      refine wl (ro_move rfl) ?_
      refine wl (ro_cmp (r := decide (c < 24)) rfl rfl (congrArg some (decide_eq_decide.2 (by omega)))) ?_
      refine wl_nil (x_then (hK13 _ _ ?_))
      clear hK13 K13
      refine wc_cond rfl (fun hc18 => ?_) (fun hc18 => ?_)
      · try simp only [decide_eq_true_eq, decide_eq_false_iff_not, Bool.not_eq_true', Bool.not_eq_false', Bool.not_eq_eq_eq_not, Bool.not_true, Bool.not_false, beq_iff_eq, bne_iff_ne, ne_eq, beq_eq_false_iff_ne, bne_eq_false_iff_eq, gt_iff_lt, ge_iff_le, Int.not_lt, Int.not_le] at hc18
        have hQ : NxQ s SF c p (nxR s p nx) := hL.read hc18
        have hnb := nxR_bd (s := s) (p := p) hnx
        refine c_skip (x_then (hK12 _ _ ?_))
        clear hK12 K12
        refine forget [(0, _), (1, _), (5, _), (6, _), (7, _)] ⟨rfl, rfl, rfl, rfl, rfl, trivial⟩ (fun e => ?_)
        refine c_seq (fun K14 hK14 => ?_)
        refine c_block ?_
        refine c_mid (fun a' w' => w' = u1 ∧ ∃ e, a' = Fr 69 (upds e [(0, ptr X.k), (1, S s), (5, i64c p), (6, icv (nxR s p nx)), (7, i64c c)]) []) ?_ ?_
        · skip
          refine c_seq (fun K15 hK15 => ?_)
          refine c_reg ?_ -- region 10 file.go:68
          refine wl (ro_move rfl) ?_
          refine wl (ro_cmp (r := decide (nx < 0)) rfl rfl rfl) ?_
          refine wl_fork rfl (fun hg23 => ?_) (fun hg23 => ?_)
          · try simp only [decide_eq_true_eq, decide_eq_false_iff_not, Bool.not_eq_true', Bool.not_eq_false', Bool.not_eq_eq_eq_not, Bool.not_true, Bool.not_false, beq_iff_eq, bne_iff_ne, ne_eq, beq_eq_false_iff_ne, bne_eq_false_iff_eq, gt_iff_lt, ge_iff_le, Int.not_lt, Int.not_le] at hg23
            refine wlg_yes rfl (ro_move rfl) ?_
            refine wlg_yes rfl (ro_move rfl) ?_
            refine wlg_yes rfl (ro_lenS rfl st_9) ?_
            refine wlg_yes rfl (ro_cmp (r := decide (p < s.length)) rfl rfl (congrArg some (decide_eq_decide.2 (by omega)))) ?_
            refine wl (ro_pick rfl rfl rfl) ?_
            refine wl_nil (x_then (hK15 _ _ ?_))
            clear hK15 K15
            refine wc_cond rfl (fun hc28 => ?_) (fun hc28 => ?_)
            · try simp only [decide_eq_true_eq, decide_eq_false_iff_not, Bool.not_eq_true', Bool.not_eq_false', Bool.not_eq_eq_eq_not, Bool.not_true, Bool.not_false, beq_iff_eq, bne_iff_ne, ne_eq, beq_eq_false_iff_ne, bne_eq_false_iff_eq, gt_iff_lt, ge_iff_le, Int.not_lt, Int.not_le] at hc28
              refine c_reg ?_ -- region 11 file.go:69
              refine wl (ro_move rfl) ?_
              refine wl (ro_move rfl) ?_
              refine wl_call rfl en_31 (pair31 (by have := hL.fit hc28; omega) hsl) ?_
              rintro _ u0 ⟨rfl, hw0⟩
              refine wl (ro_assign rfl) ?_
              refine wl_nil (x_then ?_)
              exact ⟨hw0, kp _ ⟨rfl, rfl, rfl, by unfold nxR; rw [if_pos ⟨hg23, hc28⟩]; rfl, rfl, trivial⟩⟩
            · try simp only [decide_eq_true_eq, decide_eq_false_iff_not, Bool.not_eq_true', Bool.not_eq_false', Bool.not_eq_eq_eq_not, Bool.not_true, Bool.not_false, beq_iff_eq, bne_iff_ne, ne_eq, beq_eq_false_iff_ne, bne_eq_false_iff_eq, gt_iff_lt, ge_iff_le, Int.not_lt, Int.not_le] at hc28
              refine c_skip (x_then ?_)
              exact ⟨rfl, kp _ ⟨rfl, rfl, rfl, by unfold nxR; rw [if_neg (by omega)]; rfl, rfl, trivial⟩⟩
          · try simp only [decide_eq_true_eq, decide_eq_false_iff_not, Bool.not_eq_true', Bool.not_eq_false', Bool.not_eq_eq_eq_not, Bool.not_true, Bool.not_false, beq_iff_eq, bne_iff_ne, ne_eq, beq_eq_false_iff_ne, bne_eq_false_iff_eq, gt_iff_lt, ge_iff_le, Int.not_lt, Int.not_le] at hg23
            refine wlg_no rfl ?_
            refine wlg_no rfl ?_
            refine wlg_no rfl ?_
            refine wlg_no rfl ?_
            refine wl (ro_pick rfl rfl rfl) ?_
            refine wl_nil (x_then (hK15 _ _ ?_))
            clear hK15 K15
            refine wc_condF rfl ?_
            refine c_skip (x_then ?_)
            exact ⟨rfl, kp _ ⟨rfl, rfl, rfl, by unfold nxR; rw [if_neg (by omega)]; rfl, rfl, trivial⟩⟩
        rintro a' u2 ⟨hu2, e, rfl⟩
        subst hu2
        generalize nxR s p nx = nx' at hQ hnb ⊢
        refine c_seq (fun K16 hK16 => ?_)
        refine c_reg ?_ -- region 12 file.go:71
        refine wl (ro_assign rfl) ?_
        refine wl_nil (x_then (hK16 _ _ ?_))
        clear hK16 K16
        refine c_mid (fun a' w' => w' = u2 ∧ ∃ (p' : Nat) (nx2 : Int) (pc : Tx), PcI s SF c p' nx2 pc ∧ ∃ e, a' = Fr 69 (upds e [(0, ptr X.k), (1, S s), (5, i64c p'), (6, icv nx2), (7, i64c c), (8, S pc)]) []) ?_ ?_
        · skip
          refine c_seq (fun K17 hK17 => ?_)
          refine c_reg ?_ -- region 13 file.go:72
          refine wl (ro_move rfl) ?_
          refine wl (ro_move rfl) ?_
          refine wl (ro_cmp (r := decide (nx' = (c : Int))) rfl rfl rfl) ?_
          refine wl_nil (x_then (hK17 _ _ ?_))
          clear hK17 K17
          refine wc_cond rfl (fun hc34 => ?_) (fun hc34 => ?_)
          · try simp only [decide_eq_true_eq, decide_eq_false_iff_not, Bool.not_eq_true', Bool.not_eq_false', Bool.not_eq_eq_eq_not, Bool.not_true, Bool.not_false, beq_iff_eq, bne_iff_ne, ne_eq, beq_eq_false_iff_ne, bne_eq_false_iff_eq, gt_iff_lt, ge_iff_le, Int.not_lt, Int.not_le] at hc34
            obtain ⟨n, f1, f2, f3, f4, f5⟩ : ∃ n, PieceAt s SF c p n := hQ.elim (fun q => q.2) (fun q => absurd hc34 q.1)
            refine c_seq (fun K18 hK18 => ?_)
            refine c_reg ?_ -- region 14 file.go:73
            refine wl (ro_move rfl) ?_
            refine wl (ro_move rfl) ?_
            refine wl (ro_arith (r := ((p + 2 : Nat) : Int)) rfl rfl rfl (Go.IntWalk.i64_in _ (by omega))) ?_
            refine wl_call rfl en_31 (pair31 (by omega) hsl) ?_
            rintro _ u0 ⟨rfl, hw0⟩
            rw [hw0, f2]
            clear hw0 u0
            refine wl (ro_assign rfl) ?_
            refine wl_nil (x_then (hK18 _ _ ?_))
            clear hK18 K18
            refine forget [(0, _), (1, _), (5, _), (7, _), (9, _)] ⟨rfl, rfl, rfl, rfl, rfl, trivial⟩ (fun e => ?_)
            refine c_seq (fun K19 hK19 => ?_)
            refine c_reg ?_ -- region 15 file.go:74
            refine wl (ro_move rfl) ?_
            refine wl (ro_move rfl) ?_
            refine wl (ro_arith (r := ((p + 4 : Nat) : Int)) rfl rfl rfl (Go.IntWalk.i64_in _ (by omega))) ?_
            refine wl (ro_move rfl) ?_
            refine wl (ro_arith (r := ((p + 4 : Nat) : Int)) rfl rfl rfl (Go.IntWalk.i64_in _ (by omega))) ?_
            refine wl (ro_move rfl) ?_
            refine wl (ro_arith (r := ((p + 4 + n : Nat) : Int)) rfl rfl rfl (Go.IntWalk.i64_in _ (by omega))) ?_
            refine wl (ro_sliceSLH (l := p + 4) (h := p + 4 + n) rfl rfl rfl st_9 rfl rfl (by omega) f1) ?_
            refine wl (ro_assign rfl) ?_
            refine wl_nil (x_then (hK19 _ _ ?_))
            clear hK19 K19
            refine forget [(0, _), (1, _), (5, _), (7, _), (8, _), (9, _)] ⟨rfl, rfl, rfl, rfl, rfl, rfl, trivial⟩ (fun e => ?_)
            refine c_seq (fun K20 hK20 => ?_)
            refine c_reg ?_ -- region 16 file.go:75
            refine wl (ro_move rfl) ?_
            refine wl (ro_arith (r := ((p + 4 : Nat) : Int)) rfl rfl rfl (Go.IntWalk.i64_in _ (by omega))) ?_
            refine wl (ro_move rfl) ?_
            refine wl (ro_arith (r := ((p + 4 + n : Nat) : Int)) rfl rfl rfl (Go.IntWalk.i64_in _ (by omega))) ?_
            refine wl (ro_assign rfl) ?_
            refine wl_nil (x_then (hK20 _ _ ?_))
            clear hK20 K20
            refine c_reg ?_ -- region 17 file.go:76
            refine wl (ro_assign rfl) ?_
            refine wl_nil (x_then ?_)
            exact ⟨rfl, p + 4 + n, -1, _, ⟨f1, by omega, by omega, by rw [f4, Nat.add_sub_cancel_left], f5⟩, kp _ ⟨rfl, rfl, rfl, rfl, rfl, rfl, trivial⟩⟩
          · try simp only [decide_eq_true_eq, decide_eq_false_iff_not, Bool.not_eq_true', Bool.not_eq_false', Bool.not_eq_eq_eq_not, Bool.not_true, Bool.not_false, beq_iff_eq, bne_iff_ne, ne_eq, beq_eq_false_iff_ne, bne_eq_false_iff_eq, gt_iff_lt, ge_iff_le, Int.not_lt, Int.not_le] at hc34
            refine c_skip (x_then ?_)
            have q := hQ.resolve_left (fun q => hc34 q.1)
            exact ⟨rfl, p, nx', [], ⟨hps, hnb.1, hnb.2, q.2.1, q.2.2⟩, kp _ ⟨rfl, rfl, rfl, rfl, rfl, rfl, trivial⟩⟩
        rintro a' u3 ⟨hu3, p', nx2, pc, ⟨i1, i2, i3, i4, i5⟩, e, rfl⟩
        subst hu3
        have hsz3 := hF.size
        refine c_seq (fun K21 hK21 => ?_)
        refine c_reg ?_ -- region 18 file.go:78
        refine wl (ro_move rfl) ?_
        refine wl (ro_nilCheck rfl) ?_
        refine wl (ro_fieldAddr (k := 0) rfl fo_60_0) ?_
        refine wl (ro_loadB rfl sc_46 (by assumption) rfl) ?_
        refine wl (ro_move rfl) ?_
        refine wl_call rfl en_32 (Raw32 hd) ?_
        rintro _ u0 ⟨rfl, hw0⟩
        rw [getS_nat hc18, mix_get hSF.tl hT.tl, if_neg (Nat.lt_irrefl c), hw0]
        clear hw0 u0
        refine wl (ro_assign rfl) ?_
        refine wl_nil (x_then (hK21 _ _ ?_))
        clear hK21 K21
        refine forget [(0, _), (1, _), (5, _), (6, _), (7, _), (8, _), (10, _)] ⟨rfl, rfl, rfl, rfl, rfl, rfl, rfl, trivial⟩ (fun e => ?_)
        refine c_seq (fun K22 hK22 => ?_)
        refine c_reg ?_ -- region 19 file.go:79
        refine wl (ro_move rfl) ?_
        refine wl (ro_move rfl) ?_
        refine wl (ro_eqS (l := tF T c) (m := pc) (r := decide (tF T c ≠ pc)) rfl rfl (congrArg some (by by_cases h : tF T c = pc <;> simp [h]))) ?_
        refine wl_nil (x_then (hK22 _ _ ?_))
        clear hK22 K22
        refine wc_cond rfl (fun hc59 => ?_) (fun hc59 => ?_)
        · try simp only [decide_eq_true_eq, decide_eq_false_iff_not, Bool.not_eq_true', Bool.not_eq_false', Bool.not_eq_eq_eq_not, Bool.not_true, Bool.not_false, beq_iff_eq, bne_iff_ne, ne_eq, beq_eq_false_iff_ne, bne_eq_false_iff_eq, gt_iff_lt, ge_iff_le, Int.not_lt, Int.not_le] at hc59
          refine c_reg ?_ -- region 20 file.go:80
          refine wl (ro_move rfl) ?_
          refine wl (ro_nilCheck rfl) ?_
          refine wl (ro_fieldAddr (k := 0) rfl fo_60_0) ?_
          refine wl (ro_loadB rfl sc_46 (by assumption) rfl) ?_
          refine wl (ro_move rfl) ?_
          refine wl (ro_move rfl) ?_
          refine wl_call rfl en_33 (Set33 hdb (by omega) hd) ?_
          rintro _ u4 ⟨rfl, ⟨SL4, h4⟩, G4⟩
          rw [← i4, setS_nat hc18 (hSF.le c), mix_set hSF.tl hT.tl hc18] at h4
          replace hF := hF.transG G4 (by intro k hk h; simp only [rng, one] at h ⊢ <;> omega)
          replace hK := G4.blkF hK (by intro h; simp only [rng, one] at h <;> omega)
          replace hP := G4.blkF hP (by intro h; simp only [rng, one] at h <;> omega)
          replace hM := G4.blkF hM (by intro h; simp only [rng, one] at h <;> omega)
          replace hW := G4.blkF hW (by intro h; simp only [rng, one] at h <;> omega)
          replace hO := G4.blkF hO (by intro h; simp only [rng, one] at h <;> omega)
          refine wl_nil (x_blk (x_then (hK14 _ _ ?_)))
          clear hK14 K14
          refine c_reg ?_ -- region 9 file.go:67
          refine wl (ro_move rfl) ?_
          refine wl (ro_arith (r := ((c + 1 : Nat) : Int)) rfl rfl rfl (Go.IntWalk.i64_in _ (by omega))) ?_
          refine wl (ro_assign rfl) ?_
          refine wl_nil (x_then ?_)
          exact ⟨24 - (c + 1), by omega, c + 1, p', nx2, SL4, rfl, by omega, i1, ⟨i2, i3⟩, i5, h4, hK, hP, hM, hW, hO, hF, kp _ ⟨rfl, rfl, rfl, rfl, rfl, trivial⟩⟩
        · try simp only [decide_eq_true_eq, decide_eq_false_iff_not, Bool.not_eq_true', Bool.not_eq_false', Bool.not_eq_eq_eq_not, Bool.not_true, Bool.not_false, beq_iff_eq, bne_iff_ne, ne_eq, beq_eq_false_iff_ne, bne_eq_false_iff_eq, gt_iff_lt, ge_iff_le, Int.not_lt, Int.not_le] at hc59
          refine c_skip (x_blk (x_then (hK14 _ _ ?_)))
          clear hK14 K14
          refine c_reg ?_ -- region 9 file.go:67
          refine wl (ro_move rfl) ?_
          refine wl (ro_arith (r := ((c + 1 : Nat) : Int)) rfl rfl rfl (Go.IntWalk.i64_in _ (by omega))) ?_
          refine wl (ro_assign rfl) ?_
          refine wl_nil (x_then ?_)
          rw [← mix_same hSF.tl hT.tl hc18 (by rw [i4]; exact (Classical.not_not.1 hc59).symm)] at hd
          exact ⟨24 - (c + 1), by omega, c + 1, p', nx2, SL1, rfl, by omega, i1, ⟨i2, i3⟩, i5, hd, hK, hP, hM, hW, hO, hF, kp _ ⟨rfl, rfl, rfl, rfl, rfl, trivial⟩⟩
      · try simp only [decide_eq_true_eq, decide_eq_false_iff_not, Bool.not_eq_true', Bool.not_eq_false', Bool.not_eq_eq_eq_not, Bool.not_true, Bool.not_false, beq_iff_eq, bne_iff_ne, ne_eq, beq_eq_false_iff_ne, bne_eq_false_iff_eq, gt_iff_lt, ge_iff_le, Int.not_lt, Int.not_le] at hc18
        refine c_exit (x_thenX (x_thenX (x_blkX (x_then (hK10 _ _ ?_)))))
        clear hK12 K12 hK10 K10
        refine forget [(0, _)] ⟨rfl, trivial⟩ (fun e => ?_)
        refine c_seq (fun K23 hK23 => ?_)
        refine c_reg ?_ -- region 21 file.go:83
        refine wl (ro_move rfl) ?_
        refine wl_call rfl en_34 (forget34 hbb hK hP hM hR hn6) ?_
        rintro _ u5 ⟨hall, G5⟩
        have hW5 := G5.blkF hW (fun q => by rcases q with q | q | q <;> omega)
        have hO5 := G5.blkF hO (fun q => by rcases q with q | q | q <;> omega)
        have hd5 := hd.far hdb G5 (fun b q1 q2 q => by rcases q with q | q | q <;> omega)
        refine wl_nil (x_then (hK23 _ _ ?_))
        clear hK23 K23
        refine forget [] trivial (fun e => ?_)
        refine c_seq (fun K24 hK24 => ?_)
        refine c_reg ?_ -- region 22 file.go:84
        refine wl (ro_assign rfl) ?_
        refine wl_nil (x_then (hK24 _ _ ?_))
        clear hK24 K24
        refine c_ret ?_
        refine bp_ret Tryz.results7 rfl ?_
        have : c = 24 := by omega
        subst this
        rw [mix_all hSF.tl hT.tl] at hd5
        have e1 : ldE s = 0 := by unfold ldE; rw [if_neg (by omega), hr]; rfl
        have e2 : ldS T s = SF := by unfold ldS; rw [if_neg (by omega), hr]; rfl
        unfold ldP
        rw [e1, e2, if_pos rfl, if_pos rfl]
        obtain ⟨P', M', hK', hP', hM', hRg⟩ := hall (hst [] SF [])
        exact ⟨rfl, ⟨0, P', M', W, O, SL1, hK', hP', hM', hW5, hO5, hwl, hRg.congr (fun k hk => (decide_eq_false (by simp)).symm) (fun _ _ _ _ _ => ⟨rfl, rfl⟩), by simp, hd5, (fun S hS => (by cases hS)), (fun S hS => (by cases hS))⟩, hF.trans (G5.mono (fun k _ hk => by rcases hk with rfl | rfl | rfl <;> exact ⟨by omega, by omega⟩))⟩

theorem tk_set {l A : List Value} {n i : Nat} {v : Value} (h : l.take n = A) (hn : n < l.length) (he : i = n) : (l.set i v).take (n + 1) = A ++ [v] := by
  subst he
  rw [List.set_eq_take_append_cons_drop, if_pos hn, h]
  have hA : A.length = i := by rw [← h, List.length_take]; omega
  rw [List.take_append, hA, List.take_of_length_le (by omega)]
  simp
theorem tk_cat {l A cs : List Value} {n m : Nat} (h : l.take n = A) (hn : n + cs.length ≤ l.length) (hm : cs.length = m) : (l.take n ++ cs ++ l.drop (n + m)).take (n + m) = A ++ cs := by
  rw [h]
  have hA : A.length = n := by rw [← h, List.length_take]; omega
  rw [List.take_append_of_le_length (by rw [List.length_append]; omega), List.take_of_length_le (by rw [List.length_append]; omega)]
theorem d2_len (n : Nat) : (d2 n).length = 2 := rfl
set_option maxHeartbeats 16000000 in
theorem Save53 {w : World} {lo hi : Nat} {X : BB} {T : List Tx} {past next : List (List Tx)} (hb : BaB lo hi X) (hhi : hi ≤ w.heap.size) (h : BaV w X T past next) :
    Ret Tryz.prog 53 [ptr X.k] w (fun v w' => v = S (svT T 24) ∧ BaV w' X T past next ∧ Fram (rng lo hi) w w') := by
  have hF : Fram (rng lo hi) w w := Fram.refl _ _
  obtain ⟨b, P, M, W, O, SL, h⟩ := h
  have hT := h.ok
  obtain ⟨hK, hP, hM, hW, hO', hwl, hR, hn6, hd, hpo, hno⟩ := id h
  have hbb := hb
  obtain ⟨hdb, b1, b2, b3, b4, b5, b6⟩ := hb
  have hlo := hdb.lom
  have hlo1 := hdb.mb
  have hlo2 := hdb.be
  have hlo3 := hdb.eh
  have hm1 : rng lo hi X.o := ⟨by omega, by omega⟩
  obtain ⟨l, hl, hO⟩ : ∃ l : List Value, l.length = 1056 ∧ Blk w.heap X.o l 5 := ⟨_, cel_len, hO'⟩
  refine ret_of Tryz.func53 rfl Tryz.ntmps53 rfl ?_
  refine c_seq (fun K1 hK1 => ?_)
  refine c_reg ?_ -- region 0 file.go:8
  refine wl (ro_assign rfl) ?_
  refine wl_nil (x_then (hK1 _ _ ?_))
  clear hK1 K1
  refine forget [(0, _)] ⟨rfl, trivial⟩ (fun e => ?_)
  refine c_seq (fun K2 hK2 => ?_)
  refine c_reg ?_ -- region 1 file.go:9
  refine wl (ro_assign rfl) ?_
  refine wl_nil (x_then (hK2 _ _ ?_))
  clear hK2 K2
  refine c_seq (fun K3 hK3 => ?_)
  refine c_seq (fun K4 hK4 => ?_)
  refine c_reg ?_ -- region 2 file.go:10
  refine wl (ro_assign rfl) ?_
  refine wl_nil (x_then (hK4 _ _ ?_))
  clear hK4 K4
  refine c_block ?_
  -- loop@r3: live slots [0, 3, 4]
  refine c_loopG (fun m a' w' => ∃ (i : Nat) (l : List Value), m = 24 - i ∧ i ≤ 24 ∧ l.length = 1056 ∧ l.take (svT T i).length = (svT T i).map u8c ∧ DaV w' X.D zL T SL ∧ Blk w'.heap X.k (bst X b past.length next.length) 60 ∧ Blk w'.heap X.p (rws stc P) 9 ∧ Blk w'.heap X.t (rws msc M) 85 ∧ Blk w'.heap X.s (rws stc W) 9 ∧ Blk w'.heap X.o l 5 ∧ Fram (rng lo hi) w w' ∧ ∃ e, a' = Fr 84 (upds e [(0, ptr X.k), (3, i64c (svT T i).length), (4, i64c i)]) []) 24 ⟨0, l, rfl, by omega, hl, rfl, hd, hK, hP, hM, hW, hO, hF, kp _ ⟨rfl, rfl, rfl, trivial⟩⟩ ?_
  clear hF hK hP hM hW hO hd hl l
  rintro m a' u1 ⟨i, l, rfl, hi24, hl, htk, hd, hK, hP, hM, hW, hO, hF, e, rfl⟩
  have hsv := svT_len hT i
  have hle := hT.le i
  have hsv1 : svT T (i + 1) = svT T i ++ svP T i := rfl
  generalize hAl : (svT T i).length = n at *
  refine c_seq (fun K5 hK5 => ?_)
  refine c_seq (fun K6 hK6 => ?_)
  refine c_reg ?_ -- region 3 file.go:10
  refine wl (ro_move rfl) ?_
  refine wl (ro_cmp (r := decide (i < 24)) rfl rfl (congrArg some (decide_eq_decide.2 (by omega)))) ?_
  refine wl_nil (x_then (hK6 _ _ ?_))
  clear hK6 K6
  refine wc_cond rfl (fun hc7 => ?_) (fun hc7 => ?_)
  · try simp only [decide_eq_true_eq, decide_eq_false_iff_not, Bool.not_eq_true', Bool.not_eq_false', Bool.not_eq_eq_eq_not, Bool.not_true, Bool.not_false, beq_iff_eq, bne_iff_ne, ne_eq, beq_eq_false_iff_ne, bne_eq_false_iff_eq, gt_iff_lt, ge_iff_le, Int.not_lt, Int.not_le] at hc7
    refine c_skip (x_then (hK5 _ _ ?_))
    clear hK5 K5
    refine forget [(0, _), (3, _), (4, _)] ⟨rfl, rfl, rfl, trivial⟩ (fun e => ?_)
    refine c_seq (fun K7 hK7 => ?_)
    refine c_block ?_
    refine c_seq (fun K8 hK8 => ?_)
    refine c_reg ?_ -- region 5 file.go:11
    refine wl (ro_move rfl) ?_
    refine wl (ro_nilCheck rfl) ?_
    refine wl (ro_fieldAddr (k := 0) rfl fo_60_0) ?_
    refine wl (ro_loadB rfl sc_46 (by assumption) rfl) ?_
    refine wl (ro_move rfl) ?_
    refine wl_call rfl en_32 (Raw32 hd) ?_
    rintro _ u0 ⟨rfl, hw0⟩
    rw [getS_nat hc7, hw0]
    clear hw0 u0
    generalize hraw : tF T i = raw at *
    refine wl (ro_assign rfl) ?_
    refine wl_nil (x_then (hK8 _ _ ?_))
    clear hK8 K8
    refine forget [(0, _), (3, _), (4, _), (5, _)] ⟨rfl, rfl, rfl, rfl, trivial⟩ (fun e => ?_)
    refine c_seq (fun K9 hK9 => ?_)
    refine c_reg ?_ -- region 6 file.go:12
    refine wl (ro_move rfl) ?_
    refine wl (ro_eqS (l := raw) (m := []) (r := decide (raw ≠ [])) rfl rfl (congrArg some (by by_cases h : raw = [] <;> simp [h]))) ?_
    refine wl_nil (x_then (hK9 _ _ ?_))
    clear hK9 K9
    refine wc_cond rfl (fun hc17 => ?_) (fun hc17 => ?_)
    · try simp only [decide_eq_true_eq, decide_eq_false_iff_not, Bool.not_eq_true', Bool.not_eq_false', Bool.not_eq_eq_eq_not, Bool.not_true, Bool.not_false, beq_iff_eq, bne_iff_ne, ne_eq, beq_eq_false_iff_ne, bne_eq_false_iff_eq, gt_iff_lt, ge_iff_le, Int.not_lt, Int.not_le] at hc17
      have hP1 : svP T i = d2 i ++ (d2 raw.length ++ raw) := by unfold svP; rw [hraw, if_neg hc17]
      refine c_seq (fun K10 hK10 => ?_)
      refine c_reg ?_ -- region 7 file.go:13
      refine wl (ro_move rfl) ?_
      refine wl (ro_nilCheck rfl) ?_
      refine wl (ro_fieldAddr (k := 7) rfl fo_60_7) ?_
      refine wl (ro_loadB rfl sc_58 (by assumption) rfl) ?_
      refine wl (ro_move rfl) ?_
      refine wl (ro_move rfl) ?_
      refine wl (ro_quoN (b := 10) rfl rfl (by omega) (by omega)) ?_
      refine wl (ro_arith (r := ((48 + i / 10 : Nat) : Int)) rfl rfl (congrArg some (by omega)) (Go.IntWalk.i64_in _ (by omega))) ?_
      refine wl (ro_toU8 rfl sc_3 in_5 (by omega)) ?_
      refine wl (ro_indexAddr (et := 5) (k := 1) rfl rfl se_58 (rfl) ((by omega))) ?_
      refine wl_put rfl rfl rfl sz_5 hO ((by omega)) (rfl) (fun w1 hO F1 => ?_)
      replace hF := hF.thenDrew.thenO F1 (by first | exact .inr (by omega) | exact .inl rfl | exact .inl (by assumption))
      replace hK := F1.blkO hK (by omega)
      replace hP := F1.blkO hP (by omega)
      replace hM := F1.blkO hM (by omega)
      replace hW := F1.blkO hW (by omega)
      replace hd := hd.far hdb F1 (fun b q1 q2 hh ↦ absurd (show b = X.o from hh) (by omega))
      have k1 := tk_set (v := u8c (UInt8.ofNat (48 + i / 10))) (i := 0 + n * 1) htk (by omega) (by omega)
      have hl1 : (l.set (0 + n * 1) (u8c (UInt8.ofNat (48 + i / 10)))).length = 1056 := by rw [List.length_set]; exact hl
      generalize l.set (0 + n * 1) (u8c (UInt8.ofNat (48 + i / 10))) = l1 at *
      refine wl_nil (x_then (hK10 _ _ ?_))
      clear hK10 K10
      refine forget [(0, _), (3, _), (4, _), (5, _)] ⟨rfl, rfl, rfl, rfl, trivial⟩ (fun e => ?_)
      refine c_seq (fun K11 hK11 => ?_)
      refine c_reg ?_ -- region 8 file.go:14
      refine wl (ro_move rfl) ?_
      refine wl (ro_nilCheck rfl) ?_
      refine wl (ro_fieldAddr (k := 7) rfl fo_60_7) ?_
      refine wl (ro_loadB rfl sc_58 (by assumption) rfl) ?_
      refine wl (ro_move rfl) ?_
      refine wl (ro_arith (r := ((n + 1 : Nat) : Int)) rfl rfl rfl (Go.IntWalk.i64_in _ (by omega))) ?_
      refine wl (ro_move rfl) ?_
      refine wl (ro_remN (b := 10) rfl rfl (by omega)) ?_
      refine wl (ro_arith (r := ((48 + i % 10 : Nat) : Int)) rfl rfl (congrArg some (by omega)) (Go.IntWalk.i64_in _ (by omega))) ?_
      refine wl (ro_toU8 rfl sc_3 in_5 (by omega)) ?_
      refine wl (ro_indexAddr (et := 5) (k := 1) rfl rfl se_58 (rfl) ((by omega))) ?_
      refine wl_put rfl rfl rfl sz_5 hO ((by omega)) (rfl) (fun w2 hO F2 => ?_)
      replace hF := hF.thenDrew.thenO F2 (by first | exact .inr (by omega) | exact .inl rfl | exact .inl (by assumption))
      replace hK := F2.blkO hK (by omega)
      replace hP := F2.blkO hP (by omega)
      replace hM := F2.blkO hM (by omega)
      replace hW := F2.blkO hW (by omega)
      replace hd := hd.far hdb F2 (fun b q1 q2 hh ↦ absurd (show b = X.o from hh) (by omega))
      have k2 := tk_set (v := u8c (UInt8.ofNat (48 + i % 10))) (i := 0 + (n + 1) * 1) k1 (by omega) (by omega)
      have hl2 : (l1.set (0 + (n + 1) * 1) (u8c (UInt8.ofNat (48 + i % 10)))).length = 1056 := by rw [List.length_set]; exact hl1
      generalize l1.set (0 + (n + 1) * 1) (u8c (UInt8.ofNat (48 + i % 10))) = l2 at *
      refine wl_nil (x_then (hK11 _ _ ?_))
      clear hK11 K11
      refine forget [(0, _), (3, _), (4, _), (5, _)] ⟨rfl, rfl, rfl, rfl, trivial⟩ (fun e => ?_)
      refine c_seq (fun K12 hK12 => ?_)
      refine c_reg ?_ -- region 9 file.go:15
      refine wl (ro_move rfl) ?_
      refine wl (ro_nilCheck rfl) ?_
      refine wl (ro_fieldAddr (k := 7) rfl fo_60_7) ?_
      refine wl (ro_loadB rfl sc_58 (by assumption) rfl) ?_
      refine wl (ro_move rfl) ?_
      refine wl (ro_arith (r := ((n + 2 : Nat) : Int)) rfl rfl rfl (Go.IntWalk.i64_in _ (by omega))) ?_
      refine wl (ro_move rfl) ?_
      refine wl (ro_lenS rfl st_9) ?_
      refine wl (ro_quoN (a := raw.length) (b := 10) rfl rfl (by omega) (by omega)) ?_
      refine wl (ro_arith (r := ((48 + raw.length / 10 : Nat) : Int)) rfl rfl (congrArg some (by omega)) (Go.IntWalk.i64_in _ (by omega))) ?_
      refine wl (ro_toU8 rfl sc_3 in_5 (by omega)) ?_
      refine wl (ro_indexAddr (et := 5) (k := 1) rfl rfl se_58 (rfl) ((by omega))) ?_
      refine wl_put rfl rfl rfl sz_5 hO ((by omega)) (rfl) (fun w3 hO F3 => ?_)
      replace hF := hF.thenDrew.thenO F3 (by first | exact .inr (by omega) | exact .inl rfl | exact .inl (by assumption))
      replace hK := F3.blkO hK (by omega)
      replace hP := F3.blkO hP (by omega)
      replace hM := F3.blkO hM (by omega)
      replace hW := F3.blkO hW (by omega)
      replace hd := hd.far hdb F3 (fun b q1 q2 hh ↦ absurd (show b = X.o from hh) (by omega))
      have k3 := tk_set (v := u8c (UInt8.ofNat (48 + raw.length / 10))) (i := 0 + (n + 2) * 1) k2 (by omega) (by omega)
      have hl3 : (l2.set (0 + (n + 2) * 1) (u8c (UInt8.ofNat (48 + raw.length / 10)))).length = 1056 := by rw [List.length_set]; exact hl2
      generalize l2.set (0 + (n + 2) * 1) (u8c (UInt8.ofNat (48 + raw.length / 10))) = l3 at *
      refine wl_nil (x_then (hK12 _ _ ?_))
      clear hK12 K12
      refine forget [(0, _), (3, _), (4, _), (5, _)] ⟨rfl, rfl, rfl, rfl, trivial⟩ (fun e => ?_)
      refine c_seq (fun K13 hK13 => ?_)
      refine c_reg ?_ -- region 10 file.go:16
      refine wl (ro_move rfl) ?_
      refine wl (ro_nilCheck rfl) ?_
      refine wl (ro_fieldAddr (k := 7) rfl fo_60_7) ?_
      refine wl (ro_loadB rfl sc_58 (by assumption) rfl) ?_
      refine wl (ro_move rfl) ?_
      refine wl (ro_arith (r := ((n + 3 : Nat) : Int)) rfl rfl rfl (Go.IntWalk.i64_in _ (by omega))) ?_
      refine wl (ro_move rfl) ?_
      refine wl (ro_lenS rfl st_9) ?_
      refine wl (ro_remN (b := 10) rfl rfl (by omega)) ?_
      refine wl (ro_arith (r := ((48 + raw.length % 10 : Nat) : Int)) rfl rfl (congrArg some (by omega)) (Go.IntWalk.i64_in _ (by omega))) ?_
      refine wl (ro_toU8 rfl sc_3 in_5 (by omega)) ?_
      refine wl (ro_indexAddr (et := 5) (k := 1) rfl rfl se_58 (rfl) ((by omega))) ?_
      refine wl_put rfl rfl rfl sz_5 hO ((by omega)) (rfl) (fun w4 hO F4 => ?_)
      replace hF := hF.thenDrew.thenO F4 (by first | exact .inr (by omega) | exact .inl rfl | exact .inl (by assumption))
      replace hK := F4.blkO hK (by omega)
      replace hP := F4.blkO hP (by omega)
      replace hM := F4.blkO hM (by omega)
      replace hW := F4.blkO hW (by omega)
      replace hd := hd.far hdb F4 (fun b q1 q2 hh ↦ absurd (show b = X.o from hh) (by omega))
      have k4 := tk_set (v := u8c (UInt8.ofNat (48 + raw.length % 10))) (i := 0 + (n + 3) * 1) k3 (by omega) (by omega)
      have hl4 : (l3.set (0 + (n + 3) * 1) (u8c (UInt8.ofNat (48 + raw.length % 10)))).length = 1056 := by rw [List.length_set]; exact hl3
      generalize l3.set (0 + (n + 3) * 1) (u8c (UInt8.ofNat (48 + raw.length % 10))) = l4 at *
      refine wl_nil (x_then (hK13 _ _ ?_))
      clear hK13 K13
      refine forget [(0, _), (3, _), (4, _), (5, _)] ⟨rfl, rfl, rfl, rfl, trivial⟩ (fun e => ?_)
      refine c_seq (fun K14 hK14 => ?_)
      refine c_reg ?_ -- region 11 file.go:17
      refine wl (ro_move rfl) ?_
      refine wl (ro_nilCheck rfl) ?_
      refine wl (ro_fieldAddr (k := 7) rfl fo_60_7) ?_
      refine wl (ro_loadB rfl sc_58 (by assumption) rfl) ?_
      refine wl (ro_move rfl) ?_
      refine wl (ro_arith (r := ((n + 4 : Nat) : Int)) rfl rfl rfl (Go.IntWalk.i64_in _ (by omega))) ?_
      refine wl (ro_sliceL (l := n + 4) rfl rfl se_58 rfl (by omega)) ?_
      refine wl (ro_move rfl) ?_
      refine wl_copyS (s := raw) (l := l4) (od := 0 + (n + 4) * 1) (dLen := 1056 - (n + 4)) (dCap := 1056 - (n + 4)) (g := X.o) (by show some (Value.slice (some (if 1056 = n + 4 then _ else _)) _ _) = _; rw [if_neg (by omega)]) rfl se_58 hO (by omega) (by omega) rfl (fun w9 hO9 F9 ↦ ?_)
      replace hF := hF.transG F9 (by intro k hk h; simp only [rng, one] at h ⊢ <;> omega)
      replace hK := F9.blkF hK (by intro h; simp only [rng, one] at h <;> omega)
      replace hP := F9.blkF hP (by intro h; simp only [rng, one] at h <;> omega)
      replace hM := F9.blkF hM (by intro h; simp only [rng, one] at h <;> omega)
      replace hW := F9.blkF hW (by intro h; simp only [rng, one] at h <;> omega)
      replace hd := hd.far hdb F9 (fun b q1 q2 hh => absurd (show b = X.o from hh) (by omega))
      clear hO
      have hO := hO9
      have k5 := tk_cat (cs := raw.map u8c) (m := raw.length) k4 (by simp; omega) (by simp)
      rw [show n + 3 + 1 = 0 + (n + 4) * 1 by omega] at k5
      have hl5 : (l4.take (0 + (n + 4) * 1) ++ raw.map u8c ++ l4.drop (0 + (n + 4) * 1 + raw.length)).length = 1056 := by
        simp
        omega
      generalize l4.take (0 + (n + 4) * 1) ++ raw.map u8c ++ l4.drop (0 + (n + 4) * 1 + raw.length) = l5 at *
      have hsv2 : svT T (i + 1) = svT T i ++ (d2 i ++ (d2 raw.length ++ raw)) := by rw [hsv1, hP1]
      have hlen : (svT T (i + 1)).length = n + 4 + raw.length := by
        rw [hsv2]
        simp only [List.length_append, d2_len, hAl]
        omega
      refine wl_nil (x_then (hK14 _ _ ?_))
      clear hK14 K14
      refine c_reg ?_ -- region 12 file.go:18
      refine wl (ro_move rfl) ?_
      refine wl (ro_arith (r := ((n + 4 : Nat) : Int)) rfl rfl rfl (Go.IntWalk.i64_in _ (by omega))) ?_
      refine wl (ro_move rfl) ?_
      refine wl (ro_lenS rfl st_9) ?_
      refine wl (ro_arith (r := ((n + 4 + raw.length : Nat) : Int)) rfl rfl rfl (Go.IntWalk.i64_in _ (by omega))) ?_
      refine wl (ro_assign rfl) ?_
      refine wl_nil (x_blk (x_then (hK7 _ _ ?_)))
      clear hK7 K7
      refine c_reg ?_ -- region 4 file.go:10
      refine wl (ro_move rfl) ?_
      refine wl (ro_arith (r := ((i + 1 : Nat) : Int)) rfl rfl rfl (Go.IntWalk.i64_in _ (by omega))) ?_
      refine wl (ro_assign rfl) ?_
      refine wl_nil (x_then ?_)
      refine ⟨24 - (i + 1), by omega, i + 1, l5, rfl, by omega, hl5, ?_, hd, hK, hP, hM, hW, hO, hF, kp _ ⟨rfl, by rw [hlen]; rfl, rfl, trivial⟩⟩
      rw [show 0 + (n + 4) * 1 + raw.length = n + 4 + raw.length by omega] at k5
      rw [hlen, k5, hsv2]
      simp [d2]
    · try simp only [decide_eq_true_eq, decide_eq_false_iff_not, Bool.not_eq_true', Bool.not_eq_false', Bool.not_eq_eq_eq_not, Bool.not_true, Bool.not_false, beq_iff_eq, bne_iff_ne, ne_eq, beq_eq_false_iff_ne, bne_eq_false_iff_eq, gt_iff_lt, ge_iff_le, Int.not_lt, Int.not_le] at hc17
      refine c_skip (x_blk (x_then (hK7 _ _ ?_)))
      clear hK7 K7
      refine c_reg ?_ -- region 4 file.go:10
      refine wl (ro_move rfl) ?_
      refine wl (ro_arith (r := ((i + 1 : Nat) : Int)) rfl rfl rfl (Go.IntWalk.i64_in _ (by omega))) ?_
      refine wl (ro_assign rfl) ?_
      refine wl_nil (x_then ?_)
      have e0 : svP T i = [] := by unfold svP; rw [hraw, if_pos (Classical.not_not.1 hc17)]
      have e1 : svT T (i + 1) = svT T i := by rw [hsv1, e0, List.append_nil]
      exact ⟨24 - (i + 1), by omega, i + 1, l, rfl, by omega, hl, by rw [e1, hAl]; exact htk, hd, hK, hP, hM, hW, hO, hF, kp _ ⟨rfl, by rw [e1, hAl]; rfl, rfl, trivial⟩⟩
  · try simp only [decide_eq_true_eq, decide_eq_false_iff_not, Bool.not_eq_true', Bool.not_eq_false', Bool.not_eq_eq_eq_not, Bool.not_true, Bool.not_false, beq_iff_eq, bne_iff_ne, ne_eq, beq_eq_false_iff_ne, bne_eq_false_iff_eq, gt_iff_lt, ge_iff_le, Int.not_lt, Int.not_le] at hc7
    refine c_exit (x_thenX (x_thenX (x_blkX (x_then (hK3 _ _ ?_)))))
    clear hK5 K5 hK3 K3
    refine forget [(0, _), (3, _)] ⟨rfl, rfl, trivial⟩ (fun e => ?_)
    refine c_seq (fun K15 hK15 => ?_)
    refine c_reg ?_ -- region 13 file.go:21
    refine wl (ro_move rfl) ?_
    refine wl (ro_nilCheck rfl) ?_
    refine wl (ro_fieldAddr (k := 7) rfl fo_60_7) ?_
    refine wl (ro_loadB rfl sc_58 (by assumption) rfl) ?_
    refine wl (ro_move rfl) ?_
    refine wl (ro_sliceH (h := n) rfl rfl se_58 rfl (by omega)) ?_
    refine wl (ro_toS (o := svT T i) (b := X.o) (N := n) (c := 1056) rfl se_58 (by kernel_rfl) st_9 hO hAl (fun k y hk ↦ by (have hkl := (List.getElem?_eq_some_iff.1 hk).1; rw [← List.getElem?_take_of_lt (show k < n by omega), htk, List.getElem?_map, hk]; rfl))) ?_
    refine wl (ro_assign rfl) ?_
    refine wl_nil (x_then (hK15 _ _ ?_))
    clear hK15 K15
    refine c_ret ?_
    refine bp_ret Tryz.results53 rfl ?_
    have : i = 24 := by omega
    subst this
    have hO2 : FB u1.heap X.o 1056 (fun j => l.getD j undef) 5 := by
      have := cel_of l
      rw [hl] at this
      rw [this] at hO
      exact hO
    exact ⟨rfl, ⟨b, P, M, W, _, SL, hK, hP, hM, hW, hO2, hwl, hR, hn6, hd, hpo, hno⟩, hF⟩

end Go.Proofs.Qxb6500570aGreat
