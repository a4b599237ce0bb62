import Derived.Test.Qxb6500568aGreatDoorKc
/- The stack machine: spawn. -/
namespace Go.Proofs.Qxb6500568aGreatDoor
open Ieee
set_option linter.unusedVariables false
set_option linter.unusedSimpArgs false
set_option linter.unusedSectionVars false

section
variable {H : Array Obj} {tb : Nat} {f : Nat → List Value} {j o : Nat} {cs : List Value} {v : Value}
theorem up1_up1 {α : Type} (f : Nat → α) (i : Nat) (x y : α) : up1 (up1 f i x) i y = up1 f i y := by
  funext k
  unfold up1
  split <;> rfl
/-- the rows of the arena of threads. -/
def vrs (f : Nat → List Value) : List Value := rws f (List.range 5)
theorem vrs_at (hf : ∀ k, (f k).length = 5) (hj : j < 5) (ho : o < 5) : (vrs f)[j * 5 + o]? = (f j)[o]? := row_get (rws_at hf (by rw [List.getElem?_range hj])) ho
theorem vrs_len (hf : ∀ k, (f k).length = 5) : (vrs f).length = 25 := by unfold vrs; rw [rws_len hf, List.length_range]
theorem vrs_set (hf : ∀ k, (f k).length = 5) (hj : j < 5) (ho : o < 5) : (vrs f).set (j * 5 + o) v = vrs (up1 f j ((f j).set o v)) := by
  have hg : ∀ k, (up1 f j ((f j).set o v) k).length = 5 := fun k => by
    unfold up1
    split
    · rw [List.length_set, hf]
    · exact hf k
  refine List.ext_getElem? fun i => ?_
  by_cases hi : i < 25
  · have e : i = i / 5 * 5 + i % 5 := by omega
    rw [e, vrs_at hg (by omega) (by omega), List.getElem?_set]
    rw [vrs_at hf (by omega) (by omega), vrs_len hf]
    by_cases hk : i / 5 = j
    · rw [hk, up1_self, List.getElem?_set, hf]
      by_cases hm : i % 5 = o
      · rw [hm, if_pos rfl, if_pos (by omega), if_pos rfl, if_pos ho]
      · rw [if_neg (by omega), if_neg (by omega)]
    · rw [up1_ne hk, if_neg (by omega)]
  · rw [List.getElem?_eq_none (by rw [List.length_set, vrs_len hf]; omega), List.getElem?_eq_none (by rw [vrs_len hg]; omega)]
theorem up1_len (hf : ∀ k, (f k).length = 5) (hc : cs.length = 5) : ∀ k, (up1 f j cs k).length = 5 := fun k => by
  unfold up1
  split
  · exact hc
  · exact hf k
theorem vrow_put (hf : ∀ k, (f k).length = 5) (hj : j < 5) (hc : cs.length = 5) (ho : o < 5) (hB : Blk H tb ((vrs (up1 f j cs)).set (j * 5 + o) v) 269) : Blk H tb (vrs (up1 f j (cs.set o v))) 269 := by
  rw [vrs_set (up1_len hf hc) hj ho, up1_self, up1_up1] at hB
  exact hB
theorem vrow_get (hf : ∀ k, (f k).length = 5) (hj : j < 5) (hc : cs.length = 5) (ho : o < 5) : (vrs (up1 f j cs))[j * 5 + o]? = cs[o]? := by
  rw [vrs_at (up1_len hf hc) hj ho, up1_self]
end
/-- a thread spawned. -/
def VL.spawn (L : VL) (fn : Nat) : VL := { L with T := up1 L.T L.nt (fun _ => (0, [])), h := up1 L.h L.nt (i64c 1, i64c fn), nt := L.nt + 1 }
def mt2 (E : VE) (b : Nat) : Prop := b = E.mb ∨ b = E.tb
set_option maxHeartbeats 4000000 in
theorem spawn88 {E : VE} {w : World} {ow : Nat → Nat} {L : VL} {fn : Nat} (h : VMV E w ow L) (hn : L.nt < 5) : Ret Tryz.prog 88 [ptr E.mb, i64c fn] w (fun r w' => r = i64c L.nt ∧ VMV E w' ow (L.spawn fn) ∧ Fram (mt2 E) w w') := by
  obtain ⟨V, U, h⟩ := h
  obtain ⟨L1, hL1⟩ : ∃ L1 : VL, L1 = { L with nt := L.nt + 1 } := ⟨_, rfl⟩
  have hF : Fram (mt2 E) w w := Fram.refl _ _
  have hmb : mt2 E E.mb := .inl rfl
  have htb : mt2 E E.tb := .inr rfl
  have hM := h.m
  have hT0 := h.t
  have hmt : E.mb ≠ E.tb := fun e => by have h1 := h.tm; have h2 := h.tt; rw [e, h2] at h1; omega
  obtain ⟨g2, c2, e2⟩ := (h.u _ hn 2 (by unfold thI; omega)).form
  obtain ⟨g3, c3, e3⟩ := (h.u _ hn 3 (by unfold thI; omega)).form
  obtain ⟨g4, c4, e4⟩ := (h.u _ hn 4 (by unfold thI; omega)).form
  have b2 := h.u _ hn 2 (by unfold thI; omega)
  have b3 := h.u _ hn 3 (by unfold thI; omega)
  have b4 := h.u _ hn 4 (by unfold thI; omega)
  rw [e2] at b2
  rw [e3] at b3
  rw [e4] at b4
  replace b2 := b2.take (Nat.zero_le _)
  replace b3 := b3.take (Nat.zero_le _)
  replace b4 := b4.take (Nat.zero_le _)
  rw [Nat.zero_mul, List.take_zero] at b2 b3 b4
  have hf := thc_len L U
  have hT : Blk w.heap E.tb (vrs (up1 (thc L U) L.nt [(L.h L.nt).1, (L.h L.nt).2, .slice g2 (L.T L.nt 2).1 c2, .slice g3 (L.T L.nt 3).1 c3, .slice g4 (L.T L.nt 4).1 c4])) 269 := by
    rw [← e2, ← e3, ← e4]
    rw [show [(L.h L.nt).1, (L.h L.nt).2, U L.nt 2, U L.nt 3, U L.nt 4] = thc L U L.nt from rfl, up1_id]
    exact hT0
  have hsl : ∀ {cs : List Value} {o : Nat}, cs.length = 5 → o < 5 → L.nt * 5 + o < (vrs (up1 (thc L U) L.nt cs)).length := fun {cs o} hc ho => by rw [vrs_len (up1_len hf hc)]; omega
  unfold mbc at hM
  refine ret_of Tryz.func88 rfl Tryz.ntmps88 rfl ?_
  refine c_seq (fun K1 hK1 => ?_)
  refine c_reg ?_ -- region 0 vm.go:99
  refine wl (ro_assign rfl) ?_
  refine wl_nil (x_then (hK1 _ _ ?_))
  clear hK1 K1
  refine forget [(0, _), (1, _)] ⟨rfl, rfl, trivial⟩ (fun e => ?_)
  refine c_seq (fun K2 hK2 => ?_)
  refine c_reg ?_ -- region 1 vm.go:100
  refine wl (ro_move rfl) ?_
  refine wl (ro_nilCheck rfl) ?_
  refine wl (ro_fieldAddr (k := 9) rfl fo_89_9) ?_
  refine wl (ro_loadB rfl sc_80 (hM) rfl) ?_
  refine wl (ro_lenL rfl se_80) ?_
  refine wl (ro_assign rfl) ?_
  refine wl_nil (x_then (hK2 _ _ ?_))
  clear hK2 K2
  refine forget [(0, _), (1, _), (5, _)] ⟨rfl, rfl, rfl, trivial⟩ (fun e => ?_)
  refine c_seq (fun K3 hK3 => ?_)
  refine c_reg ?_ -- region 2 vm.go:101
  refine wl (ro_move rfl) ?_
  refine wl (ro_move rfl) ?_
  refine wl (ro_nilCheck rfl) ?_
  refine wl (ro_fieldAddr (k := 9) rfl fo_89_9) ?_
  refine wl (ro_loadB rfl sc_80 (hM) rfl) ?_
  refine wl (ro_move rfl) ?_
  refine wl (ro_arith rfl rfl rfl (Go.IntWalk.i64_in _ (by omega))) ?_
  refine wl (ro_sliceH (h := L.nt + 1) rfl rfl se_80 rfl (by omega)) ?_
  refine wl (ro_nilCheck rfl) ?_
  refine wl (ro_fieldAddr (k := 9) rfl fo_89_9) ?_
  refine wl_put rfl rfl rfl sz_80 hM (by simp) (rfl) (fun w1 hM F1 => ?_)
  replace hT := F1.blkO hT (by first | (simp only [ne_eq, (show (E.mb ≠ E.tb ∧ E.tb ≠ E.mb) = True from eq_true ⟨hmt, hmt.symm⟩), not_false_eq_true]; done) | omega)
  replace hF := hF.thenDrew.thenO F1 (by first | exact .inr (by omega) | exact .inl rfl | exact .inl (by assumption) | assumption)
  refine wl_nil (x_then (hK3 _ _ ?_))
  clear hK3 K3
  refine forget [(0, _), (1, _), (5, _)] ⟨rfl, rfl, rfl, trivial⟩ (fun e => ?_)
  refine c_seq (fun K4 hK4 => ?_)
  refine c_reg ?_ -- region 3 vm.go:102
  refine wl (ro_move rfl) ?_
  refine wl (ro_nilCheck rfl) ?_
  refine wl (ro_fieldAddr (k := 9) rfl fo_89_9) ?_
  refine wl (ro_loadB rfl sc_80 (hM) rfl) ?_
  refine wl (ro_move rfl) ?_
  refine wl (ro_indexAddr (et := 269) (k := 5) rfl rfl se_80 (rfl) ((by omega))) ?_
  refine wl (ro_assign rfl) ?_
  refine wl_nil (x_then (hK4 _ _ ?_))
  clear hK4 K4
  refine forget [(1, _), (5, _), (6, _)] ⟨rfl, rfl, rfl, trivial⟩ (fun e => ?_)
  refine c_seq (fun K5 hK5 => ?_)
  rw [show 0 + L.nt * 5 = L.nt * 5 from Nat.zero_add _]
  refine c_reg ?_ -- region 4 vm.go:103
  refine wl (ro_move rfl) ?_
  refine wl (ro_nilCheck rfl) ?_
  refine wl (ro_fieldAddr (k := 0) rfl fo_269_0) ?_
  refine wl_put rfl rfl rfl sz_3 hT (hsl rfl (by decide)) (rfl) (fun w2 hT F2 => ?_)
  replace hM := F2.blkO hM (by first | (simp only [ne_eq, (show (E.mb ≠ E.tb ∧ E.tb ≠ E.mb) = True from eq_true ⟨hmt, hmt.symm⟩), not_false_eq_true]; done) | omega)
  replace hF := hF.thenDrew.thenO F2 (by first | exact .inr (by omega) | exact .inl rfl | exact .inl (by assumption) | assumption)
  replace hT := vrow_put hf hn rfl (by decide) hT
  refine wl_nil (x_then (hK5 _ _ ?_))
  clear hK5 K5
  refine forget [(1, _), (5, _), (6, _)] ⟨rfl, rfl, rfl, trivial⟩ (fun e => ?_)
  refine c_seq (fun K6 hK6 => ?_)
  refine c_reg ?_ -- region 5 vm.go:104
  refine wl (ro_move rfl) ?_
  refine wl (ro_move rfl) ?_
  refine wl (ro_nilCheck rfl) ?_
  refine wl (ro_fieldAddr (k := 1) rfl fo_269_1) ?_
  refine wl_put rfl rfl rfl sz_3 hT (hsl rfl (by decide)) (rfl) (fun w3 hT F3 => ?_)
  replace hM := F3.blkO hM (by first | (simp only [ne_eq, (show (E.mb ≠ E.tb ∧ E.tb ≠ E.mb) = True from eq_true ⟨hmt, hmt.symm⟩), not_false_eq_true]; done) | omega)
  replace hF := hF.thenDrew.thenO F3 (by first | exact .inr (by omega) | exact .inl rfl | exact .inl (by assumption) | assumption)
  replace hT := vrow_put hf hn rfl (by decide) hT
  refine wl_nil (x_then (hK6 _ _ ?_))
  clear hK6 K6
  refine forget [(5, _), (6, _)] ⟨rfl, rfl, trivial⟩ (fun e => ?_)
  refine c_seq (fun K7 hK7 => ?_)
  refine c_reg ?_ -- region 6 vm.go:105
  refine wl (ro_move rfl) ?_
  refine wl (ro_move rfl) ?_
  refine wl (ro_nilCheck rfl) ?_
  refine wl (ro_fieldAddr (k := 2) rfl fo_269_2) ?_
  refine wl (ro_loadB rfl sc_83 (hT) (vrow_get hf hn rfl (by decide))) ?_
  refine wl (ro_sliceH (h := 0) rfl rfl se_83 rfl (by omega)) ?_
  refine wl (ro_nilCheck rfl) ?_
  refine wl (ro_fieldAddr (k := 2) rfl fo_269_2) ?_
  refine wl_put rfl rfl rfl sz_83 hT (hsl rfl (by decide)) (rfl) (fun w4 hT F4 => ?_)
  replace hM := F4.blkO hM (by first | (simp only [ne_eq, (show (E.mb ≠ E.tb ∧ E.tb ≠ E.mb) = True from eq_true ⟨hmt, hmt.symm⟩), not_false_eq_true]; done) | omega)
  replace hF := hF.thenDrew.thenO F4 (by first | exact .inr (by omega) | exact .inl rfl | exact .inl (by assumption) | assumption)
  replace hT := vrow_put hf hn rfl (by decide) hT
  refine wl_nil (x_then (hK7 _ _ ?_))
  clear hK7 K7
  refine forget [(5, _), (6, _)] ⟨rfl, rfl, trivial⟩ (fun e => ?_)
  refine c_seq (fun K8 hK8 => ?_)
  refine c_reg ?_ -- region 7 vm.go:106
  refine wl (ro_move rfl) ?_
  refine wl (ro_move rfl) ?_
  refine wl (ro_nilCheck rfl) ?_
  refine wl (ro_fieldAddr (k := 3) rfl fo_269_3) ?_
  refine wl (ro_loadB rfl sc_267 (hT) (vrow_get hf hn rfl (by decide))) ?_
  refine wl (ro_sliceH (h := 0) rfl rfl se_267 rfl (by omega)) ?_
  refine wl (ro_nilCheck rfl) ?_
  refine wl (ro_fieldAddr (k := 3) rfl fo_269_3) ?_
  refine wl_put rfl rfl rfl sz_267 hT (hsl rfl (by decide)) (rfl) (fun w5 hT F5 => ?_)
  replace hM := F5.blkO hM (by first | (simp only [ne_eq, (show (E.mb ≠ E.tb ∧ E.tb ≠ E.mb) = True from eq_true ⟨hmt, hmt.symm⟩), not_false_eq_true]; done) | omega)
  replace hF := hF.thenDrew.thenO F5 (by first | exact .inr (by omega) | exact .inl rfl | exact .inl (by assumption) | assumption)
  replace hT := vrow_put hf hn rfl (by decide) hT
  refine wl_nil (x_then (hK8 _ _ ?_))
  clear hK8 K8
  refine forget [(5, _), (6, _)] ⟨rfl, rfl, trivial⟩ (fun e => ?_)
  refine c_seq (fun K9 hK9 => ?_)
  refine c_reg ?_ -- region 8 vm.go:107
  refine wl (ro_move rfl) ?_
  refine wl (ro_move rfl) ?_
  refine wl (ro_nilCheck rfl) ?_
  refine wl (ro_fieldAddr (k := 4) rfl fo_269_4) ?_
  refine wl (ro_loadB rfl sc_86 (hT) (vrow_get hf hn rfl (by decide))) ?_
  refine wl (ro_sliceH (h := 0) rfl rfl se_86 rfl (by omega)) ?_
  refine wl (ro_nilCheck rfl) ?_
  refine wl (ro_fieldAddr (k := 4) rfl fo_269_4) ?_
  refine wl_put rfl rfl rfl sz_86 hT (hsl rfl (by decide)) (rfl) (fun w6 hT F6 => ?_)
  replace hM := F6.blkO hM (by first | (simp only [ne_eq, (show (E.mb ≠ E.tb ∧ E.tb ≠ E.mb) = True from eq_true ⟨hmt, hmt.symm⟩), not_false_eq_true]; done) | omega)
  replace hF := hF.thenDrew.thenO F6 (by first | exact .inr (by omega) | exact .inl rfl | exact .inl (by assumption) | assumption)
  replace hT := vrow_put hf hn rfl (by decide) hT
  refine wl_nil (x_then (hK9 _ _ ?_))
  clear hK9 K9
  refine forget [(5, _)] ⟨rfl, trivial⟩ (fun e => ?_)
  refine c_seq (fun K10 hK10 => ?_)
  refine c_reg ?_ -- region 9 vm.go:108
  refine wl (ro_move rfl) ?_
  refine wl (ro_assign rfl) ?_
  refine wl_nil (x_then (hK10 _ _ ?_))
  clear hK10 K10
  refine c_ret ?_
  refine bp_ret Tryz.results88 rfl ?_
  refine ⟨rfl, ⟨V, up1 U L.nt (fun i ↦ if i = 2 then .slice g2 0 c2 else if i = 3 then .slice g3 0 c3 else .slice g4 0 c4), ?_⟩, hF⟩
  have off : ∀ b, ow b ≠ 400 → ow b ≠ 409 → ¬ mt2 E b := fun b q1 q2 z ↦ z.elim (fun z ↦ q1 (by rw [z]; exact h.tm)) (fun z ↦ q2 (by rw [z]; exact h.tt))
  refine ⟨hM, ?_, fun k hk ↦ (h.a k hk).far hF (fun b q _ ↦ off b (by unfold vmI at hk; omega) (by unfold vmI at hk; omega)) (Xt.refl _ _), fun k hk l hl ↦ ?_, h.tm, h.tt, by show L.nt + 1 ≤ 5; omega, h.dfN hF⟩
  · have e : (fun k ↦ thc (L.spawn fn) (up1 U L.nt (fun i ↦ if i = 2 then .slice g2 0 c2 else if i = 3 then .slice g3 0 c3 else .slice g4 0 c4)) k) = up1 (thc L U) L.nt [i64c 1, i64c fn, .slice g2 0 c2, .slice g3 0 c3, .slice g4 0 c4] := by
      funext k
      by_cases hk : k = L.nt
      · subst hk
        rw [up1_self]
        unfold thc VL.spawn
        simp only [up1_self]
        rfl
      · rw [up1_ne hk]
        unfold thc VL.spawn
        simp only [up1_ne hk]
    show Blk _ _ (vrs (fun k ↦ thc (L.spawn fn) _ k)) 269
    rw [e]
    exact hT
  · have hlt : ∀ b, ow b = 420 + 10 * l + k → b < w.heap.size → ¬ mt2 E b := fun b q _ ↦ off b (by unfold thI at hl; omega) (by unfold thI at hl; omega)
    by_cases hkn : k = L.nt
    · subst hkn
      rw [up1_self]
      have eT : (L.spawn fn).T L.nt l = (0, []) := by show up1 L.T L.nt _ L.nt l = _; rw [up1_self]
      rw [eT]
      have hl3 : l = 2 ∨ l = 3 ∨ l = 4 := by unfold thI at hl; omega
      rcases hl3 with rfl | rfl | rfl
      · exact b2.far hF hlt (Xt.refl _ _)
      · exact b3.far hF hlt (Xt.refl _ _)
      · exact b4.far hF hlt (Xt.refl _ _)
    · rw [up1_ne hkn]
      have eT : (L.spawn fn).T k = L.T k := up1_ne hkn
      rw [eT]
      exact (h.u k hk l hl).far hF hlt (Xt.refl _ _)
end Go.Proofs.Qxb6500568aGreatDoor
