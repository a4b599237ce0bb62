import Derived.Test.Qxb6500568aGreatDoorCb
import Derived.Test.Qxb6500568aGreatDoorGe
/- The model's tables. -/
namespace Go.Proofs.Qxb6500568aGreatDoor
open Ieee
set_option linter.unusedVariables false
set_option linter.unusedSimpArgs false

def enc (p : PV × PV) : List Value := pvc p.1 ++ pvc p.2
theorem enc_len (p : PV × PV) : (enc p).length = 6 := rfl
def one1 (v : Value) : List Value := [v]
theorem one1_len (v : Value) : (one1 v).length = 1 := rfl
theorem rws_one1 (l : List Value) : rws one1 l = l := by
  induction l with
  | nil => rfl
  | cons x l ih => simp only [rws, List.flatMap_cons] at ih ⊢; rw [ih]; rfl

/-- The model's tables at tb. -/
structure MTV (w : World) (ow : Nat → Nat) (np : Value) (tb : Nat) (T : List Tb) : Prop where
  ex : ∃ V rows, Blk w.heap tb [np, V] 99 ∧ OwT w ow 41 V 155 1 T.length rows ∧ ∀ (h : Nat) t, T[h]? = some t → ∃ v, rows[h]? = some v ∧ OwT w ow (100 + h) v 154 6 t.length (rws enc t)
  tag : ow tb = 40
  len : T.length ≤ 12
  np1 : np.oneCell' = true
  ok : ∀ (h : Nat) t, T[h]? = some t → TOK t
def mtag (t : Nat) : Prop := t = 40 ∨ t = 41 ∨ (100 ≤ t ∧ t < 112)

theorem MTV.far {w w' : World} {ow ow' : Nat → Nat} {np : Value} {tb : Nat} {T : List Tb} {G : Nat → Prop} (h : MTV w ow np tb T) (f : Fram G w w') (hn : ∀ b, mtag (ow b) → b < w.heap.size → ¬ G b) (hE : Xt w ow ow') : MTV w' ow' np tb T := by
  obtain ⟨V, rows, h1, h2, h3⟩ := h.ex
  refine ⟨⟨V, rows, h1.fram f (hn tb (.inl h.tag) h1.lt), h2.far f (fun b hb hl => hn b (.inr (.inl hb)) hl) hE, fun i t hi => ?_⟩, by rw [hE tb h1.lt]; exact h.tag, h.len, h.np1, h.ok⟩
  obtain ⟨v, hv, ho⟩ := h3 i t hi
  have hl := (List.getElem?_eq_some_iff.1 hi).1
  have := h.len
  exact ⟨v, hv, ho.far f (fun b hb hl => hn b (.inr (.inr (by omega))) hl) hE⟩
theorem MTV.farN {w w' : World} {ow : Nat → Nat} {np : Value} {tb : Nat} {T : List Tb} (h : MTV w ow np tb T) (f : Fram none' w w') : MTV w' ow np tb T := h.far f (fun _ _ _ h => h) (Xt.refl _ _)

theorem MTV.row {w : World} {ow : Nat → Nat} {np : Value} {tb : Nat} {T : List Tb} (hM : MTV w ow np tb T) {h : Nat} {t : Tb} (hh : T[h]? = some t) :
    ∃ g0 cap0 l0 a cap, Blk w.heap tb [np, .slice (some ⟨g0, 0, none⟩) T.length cap0] 99 ∧ Blk w.heap g0 l0 155 ∧ l0[0 + h * 1]? = some (.slice a t.length cap) ∧ OwT w ow (100 + h) (.slice a t.length cap) 154 6 t.length (rws enc t) ∧ h < T.length ∧ T.length ≤ cap0 ∧ ow g0 = 41 ∧ l0.length = cap0 ∧ cap0 ≤ 9223372036854775807 := by
  obtain ⟨V, rows, h1, h2, h3⟩ := hM.ex
  obtain ⟨v, hv, ho⟩ := h3 h t hh
  have hl := (List.getElem?_eq_some_iff.1 hh).1
  obtain ⟨g, cap, l, hV, hB, k1, k2, k3, k4⟩ := h2.o.pos (by omega)
  obtain ⟨a, c, rfl⟩ := ho.form
  subst hV
  exact ⟨g, cap, l, a, c, h1, hB, by rw [Nat.zero_add, Nat.mul_one]; exact own_get k4 hv, ho, hl, k1, h2.t g rfl, by omega, k2⟩
theorem OwT.elem {w : World} {ow : Nat → Nat} {tag : Nat} {a : Option Addr} {cap : Nat} {t : Tb} (h : OwT w ow tag (.slice a t.length cap) 154 6 t.length (rws enc t)) {i : Nat} {p : PV × PV} (hi : t[i]? = some p) :
    ∃ g l, a = some ⟨g, 0, none⟩ ∧ Blk w.heap g l 154 ∧ (l.drop (0 + i * 6)).take 3 = pvc p.1 ∧ (l.drop (0 + i * 6 + 3)).take 3 = pvc p.2 ∧ i < t.length ∧ t.length ≤ cap ∧ l.length = cap * 6 ∧ l.take (t.length * 6) = rws enc t ∧ ow g = tag ∧ cap ≤ 9223372036854775807 := by
  obtain ⟨g, cap', l, hv, hB, k1, k2, k3, k4, k5⟩ := h.at enc_len hi
  cases hv
  have hr := k5 i p hi
  refine ⟨g, l, rfl, hB, ?_, ?_, (List.getElem?_eq_some_iff.1 hi).1, k1, k2, k3, k4, h.cap rfl⟩
  · have := congrArg (List.take 3) hr
    rw [List.take_take] at this
    simpa [enc, pvc] using this
  · have := congrArg (fun x => (List.drop 3 x).take 3) hr
    simp only [List.drop_take, List.drop_drop, List.take_take] at this
    simpa [enc, pvc] using this

def plc (t : Tb) (k : PV) : Int := match place t k with | some i => (i : Int) | none => -1

theorem fCmp_ne {x : Nat} : fCmp 2 x x = isNaNW x := by
  unfold fCmp isNaNW
  by_cases h : infB < rgW x
  · rw [if_pos (.inl h)]; simp [h]
  · rw [if_neg (by simpa using h)]; simp [h]
theorem isNaN52 {w : World} {ow : Nat → Nat} {np V : Value} {tb : Nat} {k : PV} (hX : Blk w.heap tb [np, V] 99) (hk : W64 k.N) : Ret Tryz.prog 52 [ptr tb, pv k] w (fun r w' => r = .bool (decide (k.T = 2) && isNaNW k.N) ∧ Fram none' w w') := by
  have hF : Fram none' w w := Fram.refl _ _
  refine ret_of Tryz.func52 rfl Tryz.ntmps52 rfl ?_
  refine c_seq (fun K1 hK1 => ?_)
  refine c_reg ?_ -- region 0 tablem.go:44
  refine wl_box rfl rfl (fun b3 w1 hbb3 h3 F1 => ?_)
  have hbsb3 := Nat.le_trans hF.size hbb3
  have hnetbb3 : tb < b3 := Nat.lt_of_lt_of_le hX.lt hbb3
  replace hF := hF.thenDrew.thenN F1
  replace hX := F1.blkN hX
  refine wl (ro_assign rfl) ?_
  refine wl_nil (x_then (hK1 _ _ ?_))
  clear hK1 K1
  refine c_seq (fun K2 hK2 => ?_)
  refine c_seq (fun K3 hK3 => ?_)
  refine c_reg ?_ -- region 1 tablem.go:45
  refine wl (ro_fieldAddr (k := 0) rfl fo_119_0) ?_
  refine wl (ro_loadB rfl sc_3 (by assumption) rfl) ?_
  refine wl (ro_cmp rfl rfl rfl) ?_
  refine wl_nil (x_then (hK3 _ _ ?_))
  clear hK3 K3
  refine wc_cond rfl (fun hc7 => ?_) (fun hc7 => ?_)
  · try simp only [decide_eq_true_eq, decide_eq_false_iff_not, Bool.not_eq_true', Bool.not_eq_false', Bool.not_eq_eq_eq_not, Bool.not_true, Bool.not_false, beq_iff_eq, bne_iff_ne, ne_eq, beq_eq_false_iff_ne, bne_eq_false_iff_eq, gt_iff_lt, ge_iff_le, Int.not_lt, Int.not_le] at hc7
    refine c_seq (fun K4 hK4 => ?_)
    refine c_reg ?_ -- region 2 tablem.go:46
    refine wl (ro_assign rfl) ?_
    refine wl_nil (x_then (hK4 _ _ ?_))
    clear hK4 K4
    refine c_ret (x_thenR ?_)
    refine bp_ret Tryz.results52 rfl ?_
    exact ⟨by rw [show decide (k.T = 2) = false by rw [decide_eq_false_iff_not]; omega]; rfl, hF⟩
  · try simp only [decide_eq_true_eq, decide_eq_false_iff_not, Bool.not_eq_true', Bool.not_eq_false', Bool.not_eq_eq_eq_not, Bool.not_true, Bool.not_false, beq_iff_eq, bne_iff_ne, ne_eq, beq_eq_false_iff_ne, bne_eq_false_iff_eq, gt_iff_lt, ge_iff_le, Int.not_lt, Int.not_le] at hc7
    refine c_skip (x_then (hK2 _ _ ?_))
    clear hK2 K2
    refine forget [(0, _), (3, _)] ⟨rfl, rfl, trivial⟩ (fun e => ?_)
    refine c_seq (fun K5 hK5 => ?_)
    refine c_pi [(0, false), (1, false), (2, false), (3, false), (4, false), (5, false), (6, false), (7, false), (8, true), (9, false)] (SameH _) mixed (by kernel_rfl) rfl (by kernel_rfl) (po_then (po_bp)) (sameH_now _ _) ?_ -- region 3 tablem.go:48
    refine pi_ro rfl (fun w hS => ro_move rfl) ?_
    refine pi_ro rfl (fun w hS => ro_nilCheck rfl) ?_
    refine pi_ro rfl (fun w hS => ro_fieldAddr (k := 0) rfl fo_99_0) ?_
    refine pi_ro rfl (fun w hS => ro_loadB rfl sc_46 (Blk.of_heap (by assumption) hS) rfl) ?_
    refine pi_ro rfl (fun w hS => ro_fieldAddr (k := 1) rfl fo_119_1) ?_
    refine pi_ro rfl (fun w hS => ro_loadB rfl sc_117 (Blk.of_heap (by assumption) hS) rfl) ?_
    refine pi_ro rfl (fun w hS => ro_fieldAddr (k := 1) rfl fo_119_1) ?_
    refine pi_ro rfl (fun w hS => ro_loadB rfl sc_117 (Blk.of_heap (by assumption) hS) rfl) ?_
    refine pi_call rfl rfl en_65 (Cmp65 hk hk) ?_
    rintro _ _ ⟨rfl, rfl⟩
    refine ⟨rfl, ?_⟩
    refine pi_ro rfl (fun w hS => ro_assign rfl) ?_
    refine pi_nil (x_then (hK5 _ _ ?_))
    clear hK5 K5
    refine c_ret ?_
    refine bp_ret Tryz.results52 rfl ?_
    refine ⟨?_, hF.thenDrew⟩
    rw [show decide (k.T = 2) = true by rw [decide_eq_true_eq]; omega, Bool.true_and, fCmp_ne]
set_option maxHeartbeats 4000000 in
theorem find53 {w : World} {ow : Nat → Nat} {np : Value} {tb h : Nat} {T : List Tb} {t : Tb} {k : PV} (hM : MTV w ow np tb T) (hh : T[h]? = some t) : Ret Tryz.prog 53 [ptr tb, i64c h, pv k] w (fun r w' => r = icv (plc t (nrmK k)) ∧ Fram none' w w') := by
  have hF : Fram none' w w := Fram.refl _ _
  refine ret_of Tryz.func53 rfl Tryz.ntmps53 rfl ?_
  refine c_seq (fun K1 hK1 => ?_)
  refine c_reg ?_ -- region 0 tablem.go:51
  refine wl_box rfl rfl (fun b5 w1 hbb5 h5 F1 => ?_)
  have hbsb5 := Nat.le_trans hF.size hbb5
  replace hF := hF.thenDrew.thenN F1
  refine wl (ro_assign rfl) ?_
  refine wl_nil (x_then (hK1 _ _ ?_))
  clear hK1 K1
  refine forget [(0, _), (1, _), (5, _)] ⟨rfl, rfl, rfl, trivial⟩ (fun e => ?_)
  refine c_seq (fun K2 hK2 => ?_)
  refine c_reg ?_ -- region 1 tablem.go:52
  refine wl (ro_loadAggB rfl ag_119 (by assumption) rfl rfl) ?_
  refine wl_call rfl en_54 (norm54) ?_
  rintro _ w2 ⟨rfl, F2⟩
  replace hF := hF.thenDrew.thenN F2
  replace h5 := F2.blkN h5
  refine wl_puta rfl rfl ((pvc_one _)) sz_119 (rfl) h5 ((by simp)) (rfl) (fun w3 h5 F3 => ?_)
  replace hF := hF.thenDrew.thenO F3 (by first | exact .inr (by omega) | exact .inl rfl | exact .inl (by assumption) | assumption)
  refine wl_nil (x_then (hK2 _ _ ?_))
  clear hK2 K2
  refine c_seq (fun K3 hK3 => ?_)
  refine c_seq (fun K4 hK4 => ?_)
  refine c_reg ?_ -- region 2 tablem.go:53
  refine wl (ro_assign rfl) ?_
  refine wl_nil (x_then (hK4 _ _ ?_))
  clear hK4 K4
  refine c_block ?_
  -- loop@r3: live slots [0, 1, 5, 7]
  refine c_loopG (fun m a' w' => ∃ i, m = t.length - i ∧ i ≤ t.length ∧ (∀ j, j < i → (t[j]?).map (·.1) ≠ some (nrmK k)) ∧ Blk w'.heap b5 (pvc (nrmK k)) 119 ∧ Fram none' w w' ∧ ∃ e, a' = Fr 36 (upds e [(0, ptr tb), (1, i64c h), (5, ptr b5), (7, i64c i)]) []) t.length ⟨0, by omega, by omega, fun j hj => by omega, h5, hF, kp _ ⟨rfl, rfl, rfl, rfl, trivial⟩⟩ ?_
  clear h5 hF
  rintro m a' u1 ⟨i, rfl, hi, hno, h5, hF, e, rfl⟩
  obtain ⟨g0, cap0, l0, a, cap, hX, hO, hv, ho, hhl, hc0, hg0, hl0, hc0'⟩ := (hM.farN hF).row hh
  refine c_seq (fun K5 hK5 => ?_)
  refine c_seq (fun K6 hK6 => ?_)
  refine c_reg ?_ -- region 3 tablem.go:53
  refine wl (ro_move rfl) ?_
  refine wl (ro_move rfl) ?_
  refine wl (ro_nilCheck rfl) ?_
  refine wl (ro_fieldAddr (k := 1) rfl fo_99_1) ?_
  refine wl (ro_loadB rfl sc_97 (by assumption) rfl) ?_
  refine wl (ro_move rfl) ?_
  refine wl (ro_indexAddr (et := 155) (k := 1) rfl rfl se_97 rfl (by omega)) ?_
  refine wl (ro_loadB rfl sc_155 (hO) (hv)) ?_
  refine wl (ro_lenL rfl se_155) ?_
  refine wl (ro_cmp rfl rfl rfl) ?_
  refine wl_nil (x_then (hK6 _ _ ?_))
  clear hK6 K6
  refine wc_cond rfl (fun hc19 => ?_) (fun hc19 => ?_)
  · try simp only [decide_eq_true_eq, decide_eq_false_iff_not, Bool.not_eq_true', Bool.not_eq_false', Bool.not_eq_eq_eq_not, Bool.not_true, Bool.not_false, beq_iff_eq, bne_iff_ne, ne_eq, beq_eq_false_iff_ne, bne_eq_false_iff_eq, gt_iff_lt, ge_iff_le, Int.not_lt, Int.not_le] at hc19
    obtain ⟨p, hp⟩ : ∃ p, t[i]? = some p := ⟨_, List.getElem?_eq_getElem (by omega)⟩
    obtain ⟨g, l, rfl, hR, e1, e2, _⟩ := ho.elem hp
    refine c_skip (x_then (hK5 _ _ ?_))
    clear hK5 K5
    refine forget [(0, _), (1, _), (5, _), (7, _)] ⟨rfl, rfl, rfl, rfl, trivial⟩ (fun e => ?_)
    refine c_seq (fun K7 hK7 => ?_)
    refine c_block ?_
    refine c_seq (fun K8 hK8 => ?_)
    refine c_pi [(0, false), (1, false), (2, false), (3, false), (4, false), (5, false), (6, false), (7, false), (8, false), (9, false), (10, false), (11, false), (12, false)] (SameH _) mixed (by kernel_rfl) rfl (by kernel_rfl) (po_then (po_blk (po_then (po_then (po_blk (po_then (po_bp))))))) (sameH_now _ _) ?_ -- region 5 tablem.go:54
    refine pi_ro rfl (fun w hS => ro_move rfl) ?_
    refine pi_ro rfl (fun w hS => ro_nilCheck rfl) ?_
    refine pi_ro rfl (fun w hS => ro_fieldAddr (k := 1) rfl fo_99_1) ?_
    refine pi_ro rfl (fun w hS => ro_loadB rfl sc_97 (Blk.of_heap (by assumption) hS) rfl) ?_
    refine pi_ro rfl (fun w hS => ro_move rfl) ?_
    refine pi_ro rfl (fun w hS => ro_indexAddr (et := 155) (k := 1) rfl rfl se_97 rfl (by omega)) ?_
    refine pi_ro rfl (fun w hS => ro_loadB rfl sc_155 (Blk.of_heap hO hS) (hv)) ?_
    refine pi_ro rfl (fun w hS => ro_move rfl) ?_
    refine pi_ro rfl (fun w hS => ro_indexAddr (et := 154) (k := 6) rfl rfl se_155 rfl (by omega)) ?_
    refine pi_ro rfl (fun w hS => ro_fieldAddr (k := 0) rfl fo_154_0) ?_
    refine pi_ro rfl (fun w hS => ro_loadAggB rfl ag_119 (Blk.of_heap hR hS) (rfl) (e1)) ?_
    refine pi_ro rfl (fun w hS => ro_loadAggB rfl ag_119 (Blk.of_heap (by assumption) hS) rfl rfl) ?_
    refine pi_ro rfl (fun w hS => ro_eqPV (a := p.1) (b := nrmK k) rfl rfl rfl) ?_
    refine pi_nil (x_then (hK8 _ _ ?_))
    clear hK8 K8
    refine wc_cond rfl (fun hc34 => ?_) (fun hc34 => ?_)
    · try simp only [decide_eq_true_eq, decide_eq_false_iff_not, Bool.not_eq_true', Bool.not_eq_false', Bool.not_eq_eq_eq_not, Bool.not_true, Bool.not_false, beq_iff_eq, bne_iff_ne, ne_eq, beq_eq_false_iff_ne, bne_eq_false_iff_eq, gt_iff_lt, ge_iff_le, Int.not_lt, Int.not_le] at hc34
      refine c_seq (fun K9 hK9 => ?_)
      refine c_reg ?_ -- region 6 tablem.go:55
      refine wl (ro_move rfl) ?_
      refine wl (ro_assign rfl) ?_
      refine wl_nil (x_then (hK9 _ _ ?_))
      clear hK9 K9
      refine c_ret (x_blkR (x_thenR (x_thenR (x_blkR (x_thenR ?_)))))
      refine bp_ret Tryz.results53 rfl ?_
      have hpe : p.1 = nrmK k := eqV_iff.1 hc34
      have := place_first (t := t) (k := nrmK k) (i := i) (by omega) hno (by rw [hp]; simp [hpe])
      exact ⟨by unfold plc; rw [this]; rfl, hF.thenDrew⟩
    · try simp only [decide_eq_true_eq, decide_eq_false_iff_not, Bool.not_eq_true', Bool.not_eq_false', Bool.not_eq_eq_eq_not, Bool.not_true, Bool.not_false, beq_iff_eq, bne_iff_ne, ne_eq, beq_eq_false_iff_ne, bne_eq_false_iff_eq, gt_iff_lt, ge_iff_le, Int.not_lt, Int.not_le] at hc34
      refine c_skip (x_blk (x_then (hK7 _ _ ?_)))
      clear hK7 K7
      refine c_reg ?_ -- region 4 tablem.go:53
      refine wl (ro_move rfl) ?_
      refine wl (ro_arith rfl rfl rfl (Go.IntWalk.i64_in _ (by omega))) ?_
      refine wl (ro_assign rfl) ?_
      refine wl_nil (x_then ?_)
      refine ⟨t.length - (i + 1), by omega, i + 1, rfl, by omega, ?_, h5, hF.thenDrew, kp _ ⟨rfl, rfl, rfl, rfl, trivial⟩⟩
      intro j hj
      by_cases hji : j = i
      · subst hji
        rw [hp]
        intro he
        have : eqV p.1 (nrmK k) = true := eqV_iff.2 (by simpa using he)
        rw [this] at hc34
        cases hc34
      · exact hno j (by omega)
  · try simp only [decide_eq_true_eq, decide_eq_false_iff_not, Bool.not_eq_true', Bool.not_eq_false', Bool.not_eq_eq_eq_not, Bool.not_true, Bool.not_false, beq_iff_eq, bne_iff_ne, ne_eq, beq_eq_false_iff_ne, bne_eq_false_iff_eq, gt_iff_lt, ge_iff_le, Int.not_lt, Int.not_le] at hc19
    refine c_exit (x_thenX (x_thenX (x_blkX (x_then (hK3 _ _ ?_)))))
    clear hK5 K5 hK3 K3
    refine forget [] trivial (fun e => ?_)
    refine c_seq (fun K10 hK10 => ?_)
    refine c_reg ?_ -- region 7 tablem.go:58
    refine wl (ro_assign rfl) ?_
    refine wl_nil (x_then (hK10 _ _ ?_))
    clear hK10 K10
    refine c_ret ?_
    refine bp_ret Tryz.results53 rfl ?_
    have := place_none (t := t) (k := nrmK k) (fun j => by
      by_cases hj : j < i
      · exact hno j hj
      · rw [List.getElem?_eq_none (by omega)]; simp)
    exact ⟨by unfold plc; rw [this], hF⟩

end Go.Proofs.Qxb6500568aGreatDoor
