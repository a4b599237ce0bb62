import Derived.Test.Qxb6500568aGreatDoorHs
/- The machine: builtins, second part. -/
namespace Go.Proofs.Qxb6500568aGreatDoor
open Ieee
set_option linter.unusedVariables false
set_option linter.unusedSimpArgs false
set_option linter.unusedSectionVars false

section
variable {P : Program} {n : Nat} {e : Nat → Option Value} {w : World}
theorem bqp_ret {fn : Func} {R E : Value → World → Prop} {v : Value} (h : (results fn (Fr n e []).tmps).run P w = .ok v w) (hR : R v w) : BPp P fn R E .ret (Fr n e []) w := bodyPost_ret h rfl (.inl ⟨v, rfl, hR⟩)
theorem bqp_end {fn : Func} {R E : Value → World → Prop} {v : Value} (h : (results fn (Fr n e []).tmps).run P w = .ok v w) (hR : R v w) : BPp P fn R E .normal (Fr n e []) w := bodyPost_end h rfl (.inl ⟨v, rfl, hR⟩)
end
set_option maxHeartbeats 4000000 in
theorem spawn88U {E : VE} {w : World} {ow : Nat → Nat} {L : VL} {fn : Nat} {V : Nat → Value} {U : Nat → Nat → Value} (h : VOp E w ow L V U) (hn : L.nt < 5) : Ret Tryz.prog 88 [ptr E.mb, i64c fn] w (fun r w' => r = i64c L.nt ∧ (∃ U', VOp E w' ow (L.spawn fn) V U' ∧ ∀ k, k ≠ L.nt → U' k = U k) ∧ Fram (mt2 E) w w') := by
  obtain ⟨L1, hL1⟩ : ∃ L1 : VL, L1 = { L with nt := L.nt + 1 } := ⟨_, rfl⟩
  have hF : Fram (mt2 E) w w := Fram.refl _ _
  have hmb : mt2 E E.mb := .inl rfl
  have htb : mt2 E E.tb := .inr rfl
  have hM := h.m
  have hT0 := h.t
  have hmt : E.mb ≠ E.tb := fun e => by have h1 := h.tm; have h2 := h.tt; rw [e, h2] at h1; omega
  obtain ⟨g2, c2, e2⟩ := (h.u _ hn 2 (by unfold thI; omega)).form
  obtain ⟨g3, c3, e3⟩ := (h.u _ hn 3 (by unfold thI; omega)).form
  obtain ⟨g4, c4, e4⟩ := (h.u _ hn 4 (by unfold thI; omega)).form
  have b2 := h.u _ hn 2 (by unfold thI; omega)
  have b3 := h.u _ hn 3 (by unfold thI; omega)
  have b4 := h.u _ hn 4 (by unfold thI; omega)
  rw [e2] at b2
  rw [e3] at b3
  rw [e4] at b4
  replace b2 := b2.take (Nat.zero_le _)
  replace b3 := b3.take (Nat.zero_le _)
  replace b4 := b4.take (Nat.zero_le _)
  rw [Nat.zero_mul, List.take_zero] at b2 b3 b4
  have hf := thc_len L U
  have hT : Blk w.heap E.tb (vrs (up1 (thc L U) L.nt [(L.h L.nt).1, (L.h L.nt).2, .slice g2 (L.T L.nt 2).1 c2, .slice g3 (L.T L.nt 3).1 c3, .slice g4 (L.T L.nt 4).1 c4])) 269 := by
    rw [← e2, ← e3, ← e4]
    rw [show [(L.h L.nt).1, (L.h L.nt).2, U L.nt 2, U L.nt 3, U L.nt 4] = thc L U L.nt from rfl, up1_id]
    exact hT0
  have hsl : ∀ {cs : List Value} {o : Nat}, cs.length = 5 → o < 5 → L.nt * 5 + o < (vrs (up1 (thc L U) L.nt cs)).length := fun {cs o} hc ho => by rw [vrs_len (up1_len hf hc)]; omega
  unfold mbc at hM
  refine ret_of Tryz.func88 rfl Tryz.ntmps88 rfl ?_
  refine c_seq (fun K1 hK1 => ?_)
  refine c_reg ?_ -- region 0 vm.go:99
  refine wl (ro_assign rfl) ?_
  refine wl_nil (x_then (hK1 _ _ ?_))
  clear hK1 K1
  refine forget [(0, _), (1, _)] ⟨rfl, rfl, trivial⟩ (fun e => ?_)
  refine c_seq (fun K2 hK2 => ?_)
  refine c_reg ?_ -- region 1 vm.go:100
  refine wl (ro_move rfl) ?_
  refine wl (ro_nilCheck rfl) ?_
  refine wl (ro_fieldAddr (k := 9) rfl fo_89_9) ?_
  refine wl (ro_loadB rfl sc_80 (hM) rfl) ?_
  refine wl (ro_lenL rfl se_80) ?_
  refine wl (ro_assign rfl) ?_
  refine wl_nil (x_then (hK2 _ _ ?_))
  clear hK2 K2
  refine forget [(0, _), (1, _), (5, _)] ⟨rfl, rfl, rfl, trivial⟩ (fun e => ?_)
  refine c_seq (fun K3 hK3 => ?_)
  refine c_reg ?_ -- region 2 vm.go:101
  refine wl (ro_move rfl) ?_
  refine wl (ro_move rfl) ?_
  refine wl (ro_nilCheck rfl) ?_
  refine wl (ro_fieldAddr (k := 9) rfl fo_89_9) ?_
  refine wl (ro_loadB rfl sc_80 (hM) rfl) ?_
  refine wl (ro_move rfl) ?_
  refine wl (ro_arith rfl rfl rfl (Go.IntWalk.i64_in _ (by omega))) ?_
  refine wl (ro_sliceH (h := L.nt + 1) rfl rfl se_80 rfl (by omega)) ?_
  refine wl (ro_nilCheck rfl) ?_
  refine wl (ro_fieldAddr (k := 9) rfl fo_89_9) ?_
  refine wl_put rfl rfl rfl sz_80 hM (by simp) (rfl) (fun w1 hM F1 => ?_)
  replace hT := F1.blkO hT (by first | (simp only [ne_eq, (show (E.mb ≠ E.tb ∧ E.tb ≠ E.mb) = True from eq_true ⟨hmt, hmt.symm⟩), not_false_eq_true]; done) | omega)
  replace hF := hF.thenDrew.thenO F1 (by first | exact .inr (by omega) | exact .inl rfl | exact .inl (by assumption) | assumption)
  refine wl_nil (x_then (hK3 _ _ ?_))
  clear hK3 K3
  refine forget [(0, _), (1, _), (5, _)] ⟨rfl, rfl, rfl, trivial⟩ (fun e => ?_)
  refine c_seq (fun K4 hK4 => ?_)
  refine c_reg ?_ -- region 3 vm.go:102
  refine wl (ro_move rfl) ?_
  refine wl (ro_nilCheck rfl) ?_
  refine wl (ro_fieldAddr (k := 9) rfl fo_89_9) ?_
  refine wl (ro_loadB rfl sc_80 (hM) rfl) ?_
  refine wl (ro_move rfl) ?_
  refine wl (ro_indexAddr (et := 269) (k := 5) rfl rfl se_80 (rfl) ((by omega))) ?_
  refine wl (ro_assign rfl) ?_
  refine wl_nil (x_then (hK4 _ _ ?_))
  clear hK4 K4
  refine forget [(1, _), (5, _), (6, _)] ⟨rfl, rfl, rfl, trivial⟩ (fun e => ?_)
  refine c_seq (fun K5 hK5 => ?_)
  rw [show 0 + L.nt * 5 = L.nt * 5 from Nat.zero_add _]
  refine c_reg ?_ -- region 4 vm.go:103
  refine wl (ro_move rfl) ?_
  refine wl (ro_nilCheck rfl) ?_
  refine wl (ro_fieldAddr (k := 0) rfl fo_269_0) ?_
  refine wl_put rfl rfl rfl sz_3 hT (hsl rfl (by decide)) (rfl) (fun w2 hT F2 => ?_)
  replace hM := F2.blkO hM (by first | (simp only [ne_eq, (show (E.mb ≠ E.tb ∧ E.tb ≠ E.mb) = True from eq_true ⟨hmt, hmt.symm⟩), not_false_eq_true]; done) | omega)
  replace hF := hF.thenDrew.thenO F2 (by first | exact .inr (by omega) | exact .inl rfl | exact .inl (by assumption) | assumption)
  replace hT := vrow_put hf hn rfl (by decide) hT
  refine wl_nil (x_then (hK5 _ _ ?_))
  clear hK5 K5
  refine forget [(1, _), (5, _), (6, _)] ⟨rfl, rfl, rfl, trivial⟩ (fun e => ?_)
  refine c_seq (fun K6 hK6 => ?_)
  refine c_reg ?_ -- region 5 vm.go:104
  refine wl (ro_move rfl) ?_
  refine wl (ro_move rfl) ?_
  refine wl (ro_nilCheck rfl) ?_
  refine wl (ro_fieldAddr (k := 1) rfl fo_269_1) ?_
  refine wl_put rfl rfl rfl sz_3 hT (hsl rfl (by decide)) (rfl) (fun w3 hT F3 => ?_)
  replace hM := F3.blkO hM (by first | (simp only [ne_eq, (show (E.mb ≠ E.tb ∧ E.tb ≠ E.mb) = True from eq_true ⟨hmt, hmt.symm⟩), not_false_eq_true]; done) | omega)
  replace hF := hF.thenDrew.thenO F3 (by first | exact .inr (by omega) | exact .inl rfl | exact .inl (by assumption) | assumption)
  replace hT := vrow_put hf hn rfl (by decide) hT
  refine wl_nil (x_then (hK6 _ _ ?_))
  clear hK6 K6
  refine forget [(5, _), (6, _)] ⟨rfl, rfl, trivial⟩ (fun e => ?_)
  refine c_seq (fun K7 hK7 => ?_)
  refine c_reg ?_ -- region 6 vm.go:105
  refine wl (ro_move rfl) ?_
  refine wl (ro_move rfl) ?_
  refine wl (ro_nilCheck rfl) ?_
  refine wl (ro_fieldAddr (k := 2) rfl fo_269_2) ?_
  refine wl (ro_loadB rfl sc_83 (hT) (vrow_get hf hn rfl (by decide))) ?_
  refine wl (ro_sliceH (h := 0) rfl rfl se_83 rfl (by omega)) ?_
  refine wl (ro_nilCheck rfl) ?_
  refine wl (ro_fieldAddr (k := 2) rfl fo_269_2) ?_
  refine wl_put rfl rfl rfl sz_83 hT (hsl rfl (by decide)) (rfl) (fun w4 hT F4 => ?_)
  replace hM := F4.blkO hM (by first | (simp only [ne_eq, (show (E.mb ≠ E.tb ∧ E.tb ≠ E.mb) = True from eq_true ⟨hmt, hmt.symm⟩), not_false_eq_true]; done) | omega)
  replace hF := hF.thenDrew.thenO F4 (by first | exact .inr (by omega) | exact .inl rfl | exact .inl (by assumption) | assumption)
  replace hT := vrow_put hf hn rfl (by decide) hT
  refine wl_nil (x_then (hK7 _ _ ?_))
  clear hK7 K7
  refine forget [(5, _), (6, _)] ⟨rfl, rfl, trivial⟩ (fun e => ?_)
  refine c_seq (fun K8 hK8 => ?_)
  refine c_reg ?_ -- region 7 vm.go:106
  refine wl (ro_move rfl) ?_
  refine wl (ro_move rfl) ?_
  refine wl (ro_nilCheck rfl) ?_
  refine wl (ro_fieldAddr (k := 3) rfl fo_269_3) ?_
  refine wl (ro_loadB rfl sc_267 (hT) (vrow_get hf hn rfl (by decide))) ?_
  refine wl (ro_sliceH (h := 0) rfl rfl se_267 rfl (by omega)) ?_
  refine wl (ro_nilCheck rfl) ?_
  refine wl (ro_fieldAddr (k := 3) rfl fo_269_3) ?_
  refine wl_put rfl rfl rfl sz_267 hT (hsl rfl (by decide)) (rfl) (fun w5 hT F5 => ?_)
  replace hM := F5.blkO hM (by first | (simp only [ne_eq, (show (E.mb ≠ E.tb ∧ E.tb ≠ E.mb) = True from eq_true ⟨hmt, hmt.symm⟩), not_false_eq_true]; done) | omega)
  replace hF := hF.thenDrew.thenO F5 (by first | exact .inr (by omega) | exact .inl rfl | exact .inl (by assumption) | assumption)
  replace hT := vrow_put hf hn rfl (by decide) hT
  refine wl_nil (x_then (hK8 _ _ ?_))
  clear hK8 K8
  refine forget [(5, _), (6, _)] ⟨rfl, rfl, trivial⟩ (fun e => ?_)
  refine c_seq (fun K9 hK9 => ?_)
  refine c_reg ?_ -- region 8 vm.go:107
  refine wl (ro_move rfl) ?_
  refine wl (ro_move rfl) ?_
  refine wl (ro_nilCheck rfl) ?_
  refine wl (ro_fieldAddr (k := 4) rfl fo_269_4) ?_
  refine wl (ro_loadB rfl sc_86 (hT) (vrow_get hf hn rfl (by decide))) ?_
  refine wl (ro_sliceH (h := 0) rfl rfl se_86 rfl (by omega)) ?_
  refine wl (ro_nilCheck rfl) ?_
  refine wl (ro_fieldAddr (k := 4) rfl fo_269_4) ?_
  refine wl_put rfl rfl rfl sz_86 hT (hsl rfl (by decide)) (rfl) (fun w6 hT F6 => ?_)
  replace hM := F6.blkO hM (by first | (simp only [ne_eq, (show (E.mb ≠ E.tb ∧ E.tb ≠ E.mb) = True from eq_true ⟨hmt, hmt.symm⟩), not_false_eq_true]; done) | omega)
  replace hF := hF.thenDrew.thenO F6 (by first | exact .inr (by omega) | exact .inl rfl | exact .inl (by assumption) | assumption)
  replace hT := vrow_put hf hn rfl (by decide) hT
  refine wl_nil (x_then (hK9 _ _ ?_))
  clear hK9 K9
  refine forget [(5, _)] ⟨rfl, trivial⟩ (fun e => ?_)
  refine c_seq (fun K10 hK10 => ?_)
  refine c_reg ?_ -- region 9 vm.go:108
  refine wl (ro_move rfl) ?_
  refine wl (ro_assign rfl) ?_
  refine wl_nil (x_then (hK10 _ _ ?_))
  clear hK10 K10
  refine c_ret ?_
  refine bp_ret Tryz.results88 rfl ?_
  refine ⟨rfl, ⟨up1 U L.nt (fun i ↦ if i = 2 then .slice g2 0 c2 else if i = 3 then .slice g3 0 c3 else .slice g4 0 c4), ?_, fun k hk ↦ up1_ne hk⟩, hF⟩
  have off : ∀ b, ow b ≠ 400 → ow b ≠ 409 → ¬ mt2 E b := fun b q1 q2 z ↦ z.elim (fun z ↦ q1 (by rw [z]; exact h.tm)) (fun z ↦ q2 (by rw [z]; exact h.tt))
  refine ⟨hM, ?_, fun k hk ↦ (h.a k hk).far hF (fun b q _ ↦ off b (by unfold vmI at hk; omega) (by unfold vmI at hk; omega)) (Xt.refl _ _), fun k hk l hl ↦ ?_, h.tm, h.tt, by show L.nt + 1 ≤ 5; omega, h.dfN hF⟩
  · have e : (fun k ↦ thc (L.spawn fn) (up1 U L.nt (fun i ↦ if i = 2 then .slice g2 0 c2 else if i = 3 then .slice g3 0 c3 else .slice g4 0 c4)) k) = up1 (thc L U) L.nt [i64c 1, i64c fn, .slice g2 0 c2, .slice g3 0 c3, .slice g4 0 c4] := by
      funext k
      by_cases hk : k = L.nt
      · subst hk
        rw [up1_self]
        unfold thc VL.spawn
        simp only [up1_self]
        rfl
      · rw [up1_ne hk]
        unfold thc VL.spawn
        simp only [up1_ne hk]
    show Blk _ _ (vrs (fun k ↦ thc (L.spawn fn) _ k)) 269
    rw [e]
    exact hT
  · have hlt : ∀ b, ow b = 420 + 10 * l + k → b < w.heap.size → ¬ mt2 E b := fun b q _ ↦ off b (by unfold thI at hl; omega) (by unfold thI at hl; omega)
    by_cases hkn : k = L.nt
    · subst hkn
      rw [up1_self]
      have eT : (L.spawn fn).T L.nt l = (0, []) := by show up1 L.T L.nt _ L.nt l = _; rw [up1_self]
      rw [eT]
      have hl3 : l = 2 ∨ l = 3 ∨ l = 4 := by unfold thI at hl; omega
      rcases hl3 with rfl | rfl | rfl
      · exact b2.far hF hlt (Xt.refl _ _)
      · exact b3.far hF hlt (Xt.refl _ _)
      · exact b4.far hF hlt (Xt.refl _ _)
    · rw [up1_ne hkn]
      have eT : (L.spawn fn).T k = L.T k := up1_ne hkn
      rw [eT]
      exact (h.u k hk l hl).far hF hlt (Xt.refl _ _)
section
variable {C : VC} {w : World} {ow : Nat → Nat} {s : AS} {fg fc : Nat} {a0 a1 a2 : PV} {ab ao : Nat} {V : VS} {e fuel : Nat} {out : Str} {T : List Tb} {Vv : Nat → Value} {U : Nat → Nat → Value}
theorem spawnV {fn : Nat} (h : VW C w ow V e fuel out T Vv U) (h5 : V.ths.length < 5) : Ret Tryz.prog 88 [ptr C.E.mb, i64c fn] w (fun r w' => r = i64c V.ths.length ∧ Fram (mt2 C.E) w w' ∧ ∃ U', VW C w' ow { V with ths := V.ths ++ [⟨1, fn, [], [], []⟩] } e fuel out T Vv U' ∧ ∀ k, k ≠ V.ths.length → U' k = U k) := by
  obtain ⟨L, op, vl⟩ := h.ex
  have hn := vl.n
  refine (spawn88U (fn := fn) op (by omega)).mono ?_
  rintro r w' ⟨rfl, ⟨U', o1, o2⟩, fr⟩
  rw [hn] at o2
  refine ⟨by rw [hn], fr, U', h.turn (Xt.refl _ _) (fr.mono (fun b _ z => ?_)) (h.nm.off fr (Xt.refl _ _) (fun b q _ z => ?_)) o1 ?_ rfl (Nat.le_refl _) h.cb h.eb, o2⟩
  · show vmT (ow b)
    rcases z with z | z
    · rw [z, op.tm]; unfold vmT; omega
    · rw [z, op.tt]; unfold vmT; omega
  · rcases z with z | z
    · rw [z, op.tm] at q; omega
    · rw [z, op.tt] at q; omega
  · refine ⟨vl.p, vl.pb, vl.c, vl.e, vl.eb, vl.o, fun j z hz => ?_, fun j z hz => ?_, by show L.nt + 1 = (V.ths ++ [_]).length; rw [hn]; simp, vl.f, vl.z, vl.ec⟩
    · have hz : (V.ths ++ [⟨1, fn, [], [], []⟩])[j]? = some z := hz
      by_cases hj : j < V.ths.length
      · rw [List.getElem?_append_left hj] at hz
        have := vl.t j z hz
        unfold ThL at this ⊢
        have e1 : (L.spawn fn).T j = L.T j := up1_ne (by omega)
        have e2 : (L.spawn fn).h j = L.h j := up1_ne (by omega)
        rw [e1, e2]
        exact this
      · have hl := (List.getElem?_eq_some_iff.1 hz).1
        rw [List.length_append, List.length_singleton] at hl
        obtain rfl : j = V.ths.length := by omega
        rw [List.getElem?_append_right (Nat.le_refl _), Nat.sub_self] at hz
        injection hz with hz
        subst hz
        unfold ThL
        have e1 : (L.spawn fn).T V.ths.length = fun _ => (0, []) := by rw [← hn]; exact up1_self _ _ _
        have e2 : (L.spawn fn).h V.ths.length = (i64c 1, i64c fn) := by rw [← hn]; exact up1_self _ _ _
        rw [e1, e2]
        exact ⟨rfl, rfl, rfl, rfl⟩
    · have hz : (V.ths ++ [⟨1, fn, [], [], []⟩])[j]? = some z := hz
      by_cases hj : j < V.ths.length
      · rw [List.getElem?_append_left hj] at hz
        exact vl.sb j z hz
      · have hl := (List.getElem?_eq_some_iff.1 hz).1
        rw [List.length_append, List.length_singleton] at hl
        obtain rfl : j = V.ths.length := by omega
        rw [List.getElem?_append_right (Nat.le_refl _), Nat.sub_self] at hz
        injection hz with hz
        subst hz
        exact Nat.zero_le _
theorem spawnA {fn : Nat} (hR : AM C fg fc w ow s) (hc : s.cur < s.ths.length) (h5 : s.ths.length < 5) : Ret Tryz.prog 88 [ptr C.E.mb, i64c fn] w (AR C fg fc w ow (i64c s.ths.length) { s with ths := s.ths ++ [⟨1, fn, []⟩] }) := by
  obtain ⟨V, κ, Vv, U, h1, h2, h3⟩ := hR
  have hl := h2.r.tlen
  refine (spawnV (fn := fn) h1 (by omega)).mono ?_
  rintro r w' ⟨rfl, fr, U', h4, h5⟩
  obtain ⟨L, op, vl⟩ := h1.ex
  refine ⟨by rw [hl], ow, Xt.refl _ _, fr.mono (fun b _ z => ?_), _, κ, Vv, U', h4, h2.spawn fn, ?_⟩
  · left
    show vmT (ow b)
    rcases z with z | z
    · rw [z, op.tm]; unfold vmT; omega
    · rw [z, op.tt]; unfold vmT; omega
  · show U' s.cur 3 = _
    rw [h5 s.cur (by omega), h3]
    unfold AS.th
    rw [List.getD_eq_getElem?_getD, List.getD_eq_getElem?_getD, List.getElem?_append_left hc]
/-- a thread's state. -/
theorem AM.stA (hR : AM C fg fc w ow s) {n : Nat} (hn : n < s.ths.length) : ∃ lM lT, Blk w.heap C.E.mb lM 89 ∧ lM[9]? = some (.slice (some ⟨C.E.tb, 0, none⟩) s.ths.length 5) ∧ Blk w.heap C.E.tb lT 269 ∧ lT[n * 5 + 0]? = some (i64c (s.ths.getD n ATh.zero).st) := by
  obtain ⟨V, κ, Vv, U, h1, h2, h3⟩ := hR
  have hl := h2.r.tlen
  have hx : V.ths[n]? = some V.ths[n] := List.getElem?_eq_getElem (by omega)
  have hy : s.ths[n]? = some (s.ths.getD n ATh.zero) := by rw [List.getD_eq_getElem?_getD, List.getElem?_eq_getElem hn]; rfl
  have hg := h2.r.th _ _ _ hx hy
  obtain ⟨lT, hT, -, e1, -⟩ := h1.thA hx
  obtain ⟨lM, hM, -, -, -, -, -, -, -, -, -, e2, -⟩ := h1.mbA
  rw [hl] at e2
  rw [hg.1] at e1
  exact ⟨lM, lT, hM, e2, hT, e1⟩
theorem AM.nt (hR : AM C fg fc w ow s) : ∃ lM, Blk w.heap C.E.mb lM 89 ∧ lM[9]? = some (.slice (some ⟨C.E.tb, 0, none⟩) s.ths.length 5) := by
  obtain ⟨V, κ, Vv, U, h1, h2, h3⟩ := hR
  obtain ⟨lM, hM, -, -, -, -, -, -, -, -, -, e2, -⟩ := h1.mbA
  rw [h2.r.tlen] at e2
  exact ⟨lM, hM, e2⟩
set_option maxHeartbeats 4000000 in
theorem bSta (hR : AM C fg fc w ow s) (hlt : s.cur < s.ths.length) (hA : WinB w ab ao (rws pvc [a0, a1, a2])) (hn : a0.T = 7 → a0.N < s.ths.length) (h5 : s.ths.length ≤ 5) {z : AS} (hz : a0.T ≠ 7 → z = araise mCo s) :
    RetP Tryz.prog 267 [ptr C.E.mb, apt ab ao] w (fun r w' => a0.T = 7 ∧ AR C fg fc w ow (.tuple #[pv (vStr (stName (s.ths.getD a0.N ATh.zero).st)), pv vNil]) s r w') (AE C (kH s) w ow z) := by
  have hX : Xt w ow ow := Xt.refl _ _
  have hF : Fram (tg ow vtT) w w := Fram.refl _ _
  obtain ⟨l, lt, hB5, hA⟩ := hA
  obtain ⟨r0, r1, r2⟩ := win_row hA
  by_cases h7 : a0.T = 7
  · have hn := hn h7
    obtain ⟨lM, lT, hM, e9, hT, e0⟩ := hR.stA hn
    refine retp_of Tryz.func267 rfl Tryz.ntmps267 rfl ?_
    refine c_seq (fun K1 hK1 => ?_)
    refine c_reg ?_ -- region 0 call.go:166
    refine wl_new (ze_119) (fun b4 w1 hbb4 h4 F1 => ?_)
    have hneabb4 : ab < b4 := Nat.lt_of_lt_of_le hB5.lt hbb4
    have hneC.E.mbb4 : C.E.mb < b4 := Nat.lt_of_lt_of_le hM.lt hbb4
    have hneC.E.tbb4 : C.E.tb < b4 := Nat.lt_of_lt_of_le hT.lt hbb4
    have hbsb4 := Nat.le_trans hF.size hbb4
    have kh4 := hR.df b4 hbb4
    replace hB5 := F1.blkN hB5
    replace hM := F1.blkN hM
    replace hT := F1.blkN hT
    replace hF := hF.thenDrew.thenN F1
    replace hR := hR.thruN ((Fram.refl none' _).thenDrew.thenN F1)
    refine wl_new (ze_119) (fun b5 w2 hbb5 h5 F2 => ?_)
    have hneabb5 : ab < b5 := Nat.lt_of_lt_of_le hB5.lt hbb5
    have hneC.E.mbb5 : C.E.mb < b5 := Nat.lt_of_lt_of_le hM.lt hbb5
    have hneC.E.tbb5 : C.E.tb < b5 := Nat.lt_of_lt_of_le hT.lt hbb5
    have hbsb5 := Nat.le_trans hF.size hbb5
    have hneb4b5 : b4 < b5 := Nat.lt_of_lt_of_le h4.lt hbb5
    have kh5 := hR.df b5 hbb5
    replace hB5 := F2.blkN hB5
    replace hM := F2.blkN hM
    replace hT := F2.blkN hT
    replace hF := hF.thenDrew.thenN F2
    replace hR := hR.thruN ((Fram.refl none' _).thenDrew.thenN F2)
    replace h4 := F2.blkN h4
    refine wl_nil (x_then (hK1 _ _ ?_))
    clear hK1 K1
    refine c_seq (fun K2 hK2 => ?_)
    refine c_seq (fun K3 hK3 => ?_)
    refine c_reg ?_ -- region 1 call.go:167
    refine wl (ro_move rfl) ?_
    refine wl (ro_nilCheck rfl) ?_
    refine wl (ro_indexAddrA (et := 119) (k := 3) rfl rfl ar_225 (rfl) ((by decide))) ?_
    refine wl (ro_fieldAddr (k := 0) rfl fo_119_0) ?_
    refine wl (ro_loadB rfl sc_3 (hB5) (row_get r0 (by decide))) ?_
    refine wl (ro_cmp (r := false) rfl rfl (by rw [h7]; rfl)) ?_
    refine wl_nil (x_then (hK3 _ _ ?_))
    clear hK3 K3
    refine wc_condF rfl ?_
    refine c_skip (x_then (hK2 _ _ ?_))
    clear hK2 K2
    refine forget [(0, _), (1, _), (4, _), (5, _)] ⟨rfl, rfl, rfl, rfl, trivial⟩ (fun e => ?_)
    refine c_seq (fun K4 hK4 => ?_)
    refine c_pi [(0, false), (1, false), (2, false), (3, false), (4, false), (5, false), (6, false), (7, false), (8, false), (9, false), (10, false), (11, false), (12, true), (13, false)] (La ab _ _ (La C.E.mb _ _ (La C.E.tb _ _ (La b4 _ _ (La b5 _ _ (Mz C)))))) mixed (by kernel_rfl) rfl (by kernel_rfl) (po_then (po_bpp)) (⟨hB5, hM, hT, h4, h5, hR.rz⟩) ?_ -- region 3 call.go:170
    refine pi_ro rfl (fun w hS => ro_move rfl) ?_
    refine pi_ro rfl (fun w hS => ro_nilCheck rfl) ?_
    refine pi_ro rfl (fun w hS => ro_fieldAddr (k := 9) rfl fo_89_9) ?_
    refine pi_ro rfl (fun w hS => ro_loadB rfl sc_80 (hS.2.1) (e9)) ?_
    refine pi_ro rfl (fun w hS => ro_move rfl) ?_
    refine pi_ro rfl (fun w hS => ro_nilCheck rfl) ?_
    refine pi_ro rfl (fun w hS => ro_indexAddrA (et := 119) (k := 3) rfl rfl ar_225 (rfl) ((by decide))) ?_
    refine pi_ro rfl (fun w hS => ro_fieldAddr (k := 1) rfl fo_119_1) ?_
    refine pi_ro rfl (fun w hS => ro_loadB rfl sc_117 (hS.1) (row_get r0 (by decide))) ?_
    refine pi_ro rfl (fun w hS => ro_indexAddr (et := 269) (k := 5) rfl rfl se_80 (rfl) ((by show a0.N < s.ths.length; omega))) ?_
    refine pi_ro rfl (fun w hS => ro_fieldAddr (k := 0) rfl fo_269_0) ?_
    refine pi_ro rfl (fun w hS => ro_loadB rfl sc_3 (hS.2.2.1) ((by rw [Nat.zero_add]; exact e0))) ?_
    refine pi_call rfl rfl en_121 (StatusName121) ?_
    rintro _ _ ⟨rfl, rfl⟩
    refine ⟨⟨hB5, hM, hT, h4, h5, hR.rz⟩, ?_⟩
    refine pi_ro rfl (fun w hS => ro_assign rfl) ?_
    refine pi_nil (x_then (hK4 _ _ ?_))
    clear hK4 K4
    refine forget [(4, _), (5, _), (6, _)] ⟨rfl, rfl, rfl, trivial⟩ (fun e => ?_)
    refine c_seq (fun K5 hK5 => ?_)
    refine c_reg ?_ -- region 4 call.go:171
    refine wl (ro_move rfl) ?_
    refine wl (ro_build rfl bld_119_0_2) ?_
    refine wl (ro_build rfl bld_119) ?_
    refine wl_puta rfl rfl ((pvc_one (vStr _))) sz_119 (rfl) h4 ((by simp)) (rfl) (fun w3 h4 F3 => ?_)
    replace hB5 := F3.blkO hB5 (by first | omega | exact ow_ne (by assumption) (by assumption) (by omega))
    replace hM := F3.blkO hM (by first | omega | exact ow_ne (by assumption) (by assumption) (by omega))
    replace hT := F3.blkO hT (by first | omega | exact ow_ne (by assumption) (by assumption) (by omega))
    replace hF := hF.thenDrew.thenO F3 (by first | exact .inr (by omega) | exact .inl rfl | exact .inl (by assumption) | assumption)
    replace hR := hR.hbput ((Fram.refl (one b4) _).thenDrew.thenO F3 (.inl rfl))
    replace h5 := F3.blkO h5 (by first | omega | exact ow_ne (by assumption) (by assumption) (by omega))
    refine wl_puta rfl rfl ((pvc_one vNil)) sz_119 (rfl) h5 ((by simp)) (rfl) (fun w4 h5 F4 => ?_)
    replace hB5 := F4.blkO hB5 (by first | omega | exact ow_ne (by assumption) (by assumption) (by omega))
    replace hM := F4.blkO hM (by first | omega | exact ow_ne (by assumption) (by assumption) (by omega))
    replace hT := F4.blkO hT (by first | omega | exact ow_ne (by assumption) (by assumption) (by omega))
    replace hF := hF.thenDrew.thenO F4 (by first | exact .inr (by omega) | exact .inl rfl | exact .inl (by assumption) | assumption)
    replace hR := hR.hbput ((Fram.refl (one b5) _).thenDrew.thenO F4 (.inl rfl))
    replace h4 := F4.blkO h4 (by first | omega | exact ow_ne (by assumption) (by assumption) (by omega))
    refine wl_nil (x_then (hK5 _ _ ?_))
    clear hK5 K5
    refine c_ret ?_
    refine bqp_ret (res2 Tryz.results267 (rv_c rfl ag_119 (h4) (rfl)) (rv_c rfl ag_119 (h5) (rfl))) ?_
    exact ⟨h7, rfl, _, hX, hF, hR⟩
  · have hp0 := h7
    refine retp_of Tryz.func267 rfl Tryz.ntmps267 rfl ?_
    refine c_seq (fun K1 hK1 => ?_)
    refine c_reg ?_ -- region 0 call.go:166
    refine wl_new (ze_119) (fun b4 w1 hbb4 h4 F1 => ?_)
    have hneabb4 : ab < b4 := Nat.lt_of_lt_of_le hB5.lt hbb4
    have hbsb4 := Nat.le_trans hF.size hbb4
    have kh4 := hR.df b4 hbb4
    replace hB5 := F1.blkN hB5
    replace hF := hF.thenDrew.thenN F1
    replace hR := hR.thruN ((Fram.refl none' _).thenDrew.thenN F1)
    refine wl_new (ze_119) (fun b5 w2 hbb5 h5 F2 => ?_)
    have hneabb5 : ab < b5 := Nat.lt_of_lt_of_le hB5.lt hbb5
    have hbsb5 := Nat.le_trans hF.size hbb5
    have hneb4b5 : b4 < b5 := Nat.lt_of_lt_of_le h4.lt hbb5
    have kh5 := hR.df b5 hbb5
    replace hB5 := F2.blkN hB5
    replace hF := hF.thenDrew.thenN F2
    replace hR := hR.thruN ((Fram.refl none' _).thenDrew.thenN F2)
    replace h4 := F2.blkN h4
    refine wl_nil (x_then (hK1 _ _ ?_))
    clear hK1 K1
    refine c_seq (fun K2 hK2 => ?_)
    refine c_seq (fun K3 hK3 => ?_)
    refine c_reg ?_ -- region 1 call.go:167
    refine wl (ro_move rfl) ?_
    refine wl (ro_nilCheck rfl) ?_
    refine wl (ro_indexAddrA (et := 119) (k := 3) rfl rfl ar_225 (rfl) ((by decide))) ?_
    refine wl (ro_fieldAddr (k := 0) rfl fo_119_0) ?_
    refine wl (ro_loadB rfl sc_3 (hB5) (row_get r0 (by decide))) ?_
    refine wl (ro_cmp (r := true) rfl rfl (congrArg some (by simpa using fun h ↦ h7 (by omega)))) ?_
    refine wl_nil (x_then (hK3 _ _ ?_))
    clear hK3 K3
    refine wc_condT rfl ?_
    refine c_reg ?_ -- region 2 call.go:168
    refine wl_callP rfl en_259 (raise259 (s := mCo)) (fun pv w9 hE => bpp_pan (P := Tryz.prog) (fn := Tryz.f267) (AE.thr hX hF hR.q hE ((hz h7).symm))) ?_
    rintro _ _ ⟨⟩
set_option maxHeartbeats 4000000 in
theorem bCre (hR : AM C fg fc w ow s) (hc : s.cur < s.ths.length) (hA : WinB w ab ao (rws pvc [a0, a1, a2])) (h5 : s.ths.length ≤ 5) (hN : a0.T = 5 → a0.N < 4294967296) {z : AS} (hz : a0.T ≠ 5 → z = araise mCall s) (hz8 : a0.T = 5 → 5 ≤ s.ths.length → ATr 8 s z) :
    RetP Tryz.prog 266 [ptr C.E.mb, apt ab ao] w (fun r w' => (a0.T = 5 ∧ s.ths.length < 5) ∧ AR C fg fc w ow (.tuple #[pv (vCo s.ths.length), pv vNil]) { s with ths := s.ths ++ [⟨1, a0.N, []⟩] } r w') (AE C (kH s) w ow z) := by
  have hX : Xt w ow ow := Xt.refl _ _
  have hF : Fram (tg ow vtT) w w := Fram.refl _ _
  obtain ⟨l, lt, hB5, hA⟩ := hA
  obtain ⟨r0, r1, r2⟩ := win_row hA
  rcases (by omega : a0.T ≠ 5 ∨ (a0.T = 5 ∧ 5 ≤ s.ths.length) ∨ (a0.T = 5 ∧ s.ths.length < 5)) with h7 | h7 | h7
  · have hp0 := h7
    refine retp_of Tryz.func266 rfl Tryz.ntmps266 rfl ?_
    refine c_seq (fun K1 hK1 => ?_)
    refine c_reg ?_ -- region 0 call.go:155
    refine wl_new (ze_119) (fun b4 w1 hbb4 h4 F1 => ?_)
    have hneabb4 : ab < b4 := Nat.lt_of_lt_of_le hB5.lt hbb4
    have hbsb4 := Nat.le_trans hF.size hbb4
    have kh4 := hR.df b4 hbb4
    replace hB5 := F1.blkN hB5
    replace hF := hF.thenDrew.thenN F1
    replace hR := hR.thruN ((Fram.refl none' _).thenDrew.thenN F1)
    refine wl_new (ze_119) (fun b5 w2 hbb5 h5 F2 => ?_)
    have hneabb5 : ab < b5 := Nat.lt_of_lt_of_le hB5.lt hbb5
    have hbsb5 := Nat.le_trans hF.size hbb5
    have hneb4b5 : b4 < b5 := Nat.lt_of_lt_of_le h4.lt hbb5
    have kh5 := hR.df b5 hbb5
    replace hB5 := F2.blkN hB5
    replace hF := hF.thenDrew.thenN F2
    replace hR := hR.thruN ((Fram.refl none' _).thenDrew.thenN F2)
    replace h4 := F2.blkN h4
    refine wl_nil (x_then (hK1 _ _ ?_))
    clear hK1 K1
    refine c_seq (fun K2 hK2 => ?_)
    refine c_seq (fun K3 hK3 => ?_)
    refine c_reg ?_ -- region 1 call.go:156
    refine wl (ro_move rfl) ?_
    refine wl (ro_nilCheck rfl) ?_
    refine wl (ro_indexAddrA (et := 119) (k := 3) rfl rfl ar_225 (rfl) ((by decide))) ?_
    refine wl (ro_fieldAddr (k := 0) rfl fo_119_0) ?_
    refine wl (ro_loadB rfl sc_3 (hB5) (row_get r0 (by decide))) ?_
    refine wl (ro_cmp (r := true) rfl rfl (congrArg some (by simpa using fun h ↦ h7 (by omega)))) ?_
    refine wl_nil (x_then (hK3 _ _ ?_))
    clear hK3 K3
    refine wc_condT rfl ?_
    refine c_reg ?_ -- region 2 call.go:157
    refine wl_callP rfl en_259 (raise259 (s := mCall)) (fun pv w9 hE => bpp_pan (P := Tryz.prog) (fn := Tryz.f266) (AE.thr hX hF hR.q hE ((hz h7).symm))) ?_
    rintro _ _ ⟨⟩
  · obtain ⟨lM, hM, e9⟩ := hR.nt
    refine retp_of Tryz.func266 rfl Tryz.ntmps266 rfl ?_
    refine c_seq (fun K1 hK1 => ?_)
    refine c_reg ?_ -- region 0 call.go:155
    refine wl_new (ze_119) (fun b4 w1 hbb4 h4 F1 => ?_)
    have hneabb4 : ab < b4 := Nat.lt_of_lt_of_le hB5.lt hbb4
    have hneC.E.mbb4 : C.E.mb < b4 := Nat.lt_of_lt_of_le hM.lt hbb4
    have hbsb4 := Nat.le_trans hF.size hbb4
    have kh4 := hR.df b4 hbb4
    replace hB5 := F1.blkN hB5
    replace hM := F1.blkN hM
    replace hF := hF.thenDrew.thenN F1
    replace hR := hR.thruN ((Fram.refl none' _).thenDrew.thenN F1)
    refine wl_new (ze_119) (fun b5 w2 hbb5 h5 F2 => ?_)
    have hneabb5 : ab < b5 := Nat.lt_of_lt_of_le hB5.lt hbb5
    have hneC.E.mbb5 : C.E.mb < b5 := Nat.lt_of_lt_of_le hM.lt hbb5
    have hbsb5 := Nat.le_trans hF.size hbb5
    have hneb4b5 : b4 < b5 := Nat.lt_of_lt_of_le h4.lt hbb5
    have kh5 := hR.df b5 hbb5
    replace hB5 := F2.blkN hB5
    replace hM := F2.blkN hM
    replace hF := hF.thenDrew.thenN F2
    replace hR := hR.thruN ((Fram.refl none' _).thenDrew.thenN F2)
    replace h4 := F2.blkN h4
    refine wl_nil (x_then (hK1 _ _ ?_))
    clear hK1 K1
    refine c_seq (fun K2 hK2 => ?_)
    refine c_seq (fun K3 hK3 => ?_)
    refine c_reg ?_ -- region 1 call.go:156
    refine wl (ro_move rfl) ?_
    refine wl (ro_nilCheck rfl) ?_
    refine wl (ro_indexAddrA (et := 119) (k := 3) rfl rfl ar_225 (rfl) ((by decide))) ?_
    refine wl (ro_fieldAddr (k := 0) rfl fo_119_0) ?_
    refine wl (ro_loadB rfl sc_3 (hB5) (row_get r0 (by decide))) ?_
    refine wl (ro_cmp (r := false) rfl rfl (by rw [h7.1]; rfl)) ?_
    refine wl_nil (x_then (hK3 _ _ ?_))
    clear hK3 K3
    refine wc_condF rfl ?_
    refine c_skip (x_then (hK2 _ _ ?_))
    clear hK2 K2
    refine c_seq (fun K4 hK4 => ?_)
    refine c_seq (fun K5 hK5 => ?_)
    refine c_reg ?_ -- region 3 call.go:159
    refine wl (ro_move rfl) ?_
    refine wl (ro_nilCheck rfl) ?_
    refine wl (ro_fieldAddr (k := 9) rfl fo_89_9) ?_
    refine wl (ro_loadB rfl sc_80 (hM) (e9)) ?_
    refine wl (ro_lenL rfl se_80) ?_
    refine wl (ro_cmp (r := true) rfl rfl (congrArg some (decide_eq_true (by omega)))) ?_
    refine wl_nil (x_then (hK5 _ _ ?_))
    clear hK5 K5
    refine wc_condT rfl ?_
    refine c_reg ?_ -- region 4 call.go:160
    refine wl_callP rfl en_240 (stop240 (e := 8)) (fun pv w9 hE => bpp_pan (P := Tryz.prog) (fn := Tryz.f266) (AE.stop hX hF hR.q hE (hz8 h7.1 h7.2))) ?_
    rintro _ _ ⟨⟩
  · have hN := hN h7.1
    obtain ⟨lM, hM, e9⟩ := hR.nt
    have h55 := h5
    refine retp_of Tryz.func266 rfl Tryz.ntmps266 rfl ?_
    refine c_seq (fun K1 hK1 => ?_)
    refine c_reg ?_ -- region 0 call.go:155
    refine wl_new (ze_119) (fun b4 w1 hbb4 h4 F1 => ?_)
    have hneabb4 : ab < b4 := Nat.lt_of_lt_of_le hB5.lt hbb4
    have hneC.E.mbb4 : C.E.mb < b4 := Nat.lt_of_lt_of_le hM.lt hbb4
    have hbsb4 := Nat.le_trans hF.size hbb4
    have kh4 := hR.df b4 hbb4
    replace hB5 := F1.blkN hB5
    replace hM := F1.blkN hM
    replace hF := hF.thenDrew.thenN F1
    replace hR := hR.thruN ((Fram.refl none' _).thenDrew.thenN F1)
    refine wl_new (ze_119) (fun b5 w2 hbb5 h5 F2 => ?_)
    have hneabb5 : ab < b5 := Nat.lt_of_lt_of_le hB5.lt hbb5
    have hneC.E.mbb5 : C.E.mb < b5 := Nat.lt_of_lt_of_le hM.lt hbb5
    have hbsb5 := Nat.le_trans hF.size hbb5
    have hneb4b5 : b4 < b5 := Nat.lt_of_lt_of_le h4.lt hbb5
    have kh5 := hR.df b5 hbb5
    replace hB5 := F2.blkN hB5
    replace hM := F2.blkN hM
    replace hF := hF.thenDrew.thenN F2
    replace hR := hR.thruN ((Fram.refl none' _).thenDrew.thenN F2)
    replace h4 := F2.blkN h4
    refine wl_nil (x_then (hK1 _ _ ?_))
    clear hK1 K1
    refine c_seq (fun K2 hK2 => ?_)
    refine c_seq (fun K3 hK3 => ?_)
    refine c_reg ?_ -- region 1 call.go:156
    refine wl (ro_move rfl) ?_
    refine wl (ro_nilCheck rfl) ?_
    refine wl (ro_indexAddrA (et := 119) (k := 3) rfl rfl ar_225 (rfl) ((by decide))) ?_
    refine wl (ro_fieldAddr (k := 0) rfl fo_119_0) ?_
    refine wl (ro_loadB rfl sc_3 (hB5) (row_get r0 (by decide))) ?_
    refine wl (ro_cmp (r := false) rfl rfl (by rw [h7.1]; rfl)) ?_
    refine wl_nil (x_then (hK3 _ _ ?_))
    clear hK3 K3
    refine wc_condF rfl ?_
    refine c_skip (x_then (hK2 _ _ ?_))
    clear hK2 K2
    refine c_seq (fun K4 hK4 => ?_)
    refine c_seq (fun K5 hK5 => ?_)
    refine c_reg ?_ -- region 3 call.go:159
    refine wl (ro_move rfl) ?_
    refine wl (ro_nilCheck rfl) ?_
    refine wl (ro_fieldAddr (k := 9) rfl fo_89_9) ?_
    refine wl (ro_loadB rfl sc_80 (hM) (e9)) ?_
    refine wl (ro_lenL rfl se_80) ?_
    refine wl (ro_cmp (r := false) rfl rfl (congrArg some (decide_eq_false (by omega)))) ?_
    refine wl_nil (x_then (hK5 _ _ ?_))
    clear hK5 K5
    refine wc_condF rfl ?_
    refine c_skip (x_then (hK4 _ _ ?_))
    clear hK4 K4
    refine forget [(0, _), (1, _), (4, _), (5, _)] ⟨rfl, rfl, rfl, rfl, trivial⟩ (fun e => ?_)
    refine c_seq (fun K6 hK6 => ?_)
    refine c_reg ?_ -- region 5 call.go:162
    refine wl (ro_move rfl) ?_
    refine wl (ro_move rfl) ?_
    refine wl (ro_nilCheck rfl) ?_
    refine wl (ro_indexAddrA (et := 119) (k := 3) rfl rfl ar_225 (rfl) ((by decide))) ?_
    refine wl (ro_fieldAddr (k := 1) rfl fo_119_1) ?_
    refine wl (ro_loadB rfl sc_117 (hB5) (row_get r0 (by decide))) ?_
    refine wl (ro_conv (a := (a0.N : Int)) rfl sc_117 in_3 (Go.IntWalk.i64_in _ (by omega))) ?_
    refine wl_call rfl en_88 (spawnA hR.dr hc h7.2) ?_
    rintro _ u3 ⟨rfl, ow3, x3, f3, r3⟩
    obtain ⟨h4, kh4⟩ := vm_loc x3 f3 h4 kh4
    obtain ⟨h5, kh5⟩ := vm_loc x3 f3 h5 kh5
    have hs3 := hF.size
    replace hF := vm_trans hX hF f3
    replace hX := hX.trans hs3 x3
    replace hR := r3
    refine wl (ro_assign rfl) ?_
    refine wl_nil (x_then (hK6 _ _ ?_))
    clear hK6 K6
    refine forget [(4, _), (5, _), (6, _)] ⟨rfl, rfl, rfl, trivial⟩ (fun e => ?_)
    refine c_seq (fun K7 hK7 => ?_)
    refine c_reg ?_ -- region 6 call.go:163
    refine wl (ro_move rfl) ?_
    refine wl (ro_conv (a := (s.ths.length : Int)) rfl sc_3 in_117 (Go.IntWalk.u64_in _ (by omega))) ?_
    refine wl (ro_build rfl bld_119_0_1) ?_
    refine wl (ro_build rfl bld_119) ?_
    refine wl_puta rfl rfl ((pvc_one (vCo _))) sz_119 (rfl) h4 ((by simp)) (rfl) (fun w4 h4 F4 => ?_)
    replace hF := hF.thenDrew.thenO F4 (by first | exact .inr (by omega) | exact .inl rfl | exact .inl (by assumption) | assumption)
    replace hR := hR.hbput ((Fram.refl (one b4) _).thenDrew.thenO F4 (.inl rfl))
    replace h5 := F4.blkO h5 (by first | omega | exact ow_ne (by assumption) (by assumption) (by omega))
    refine wl_puta rfl rfl ((pvc_one vNil)) sz_119 (rfl) h5 ((by simp)) (rfl) (fun w5 h5 F5 => ?_)
    replace hF := hF.thenDrew.thenO F5 (by first | exact .inr (by omega) | exact .inl rfl | exact .inl (by assumption) | assumption)
    replace hR := hR.hbput ((Fram.refl (one b5) _).thenDrew.thenO F5 (.inl rfl))
    replace h4 := F5.blkO h4 (by first | omega | exact ow_ne (by assumption) (by assumption) (by omega))
    refine wl_nil (x_then (hK7 _ _ ?_))
    clear hK7 K7
    refine c_ret ?_
    refine bqp_ret (res2 Tryz.results266 (rv_c rfl ag_119 (h4) (rfl)) (rv_c rfl ag_119 (h5) (rfl))) ?_
    exact ⟨h7, rfl, _, hX, hF, hR⟩
set_option maxHeartbeats 4000000 in
theorem bNxt (hR : AM C fg fc w ow s) (hlt : s.cur < s.ths.length) (hA : WinB w ab ao (rws pvc [a0, a1, a2])) (hn : a0.T = 4 → a0.N < s.tabs.length) (h12 : s.tabs.length ≤ 12) (hk : wfV a1 = true) (hN : W64 a1.N) {z : AS} (hz : a0.T ≠ 4 → z = araise mNext s) (hz2 : a0.T = 4 → tNext (s.tabs.getD a0.N []) a1 = none → z = araise mNext s) :
    RetP Tryz.prog 265 [ptr C.E.mb, apt ab ao] w (fun r w' => ∃ k v, (a0.T = 4 ∧ tNext (s.tabs.getD a0.N []) a1 = some (k, v)) ∧ AR C fg fc w ow (.tuple #[pv k, pv v]) s r w') (AE C (kH s) w ow z) := by
  have hX : Xt w ow ow := Xt.refl _ _
  have hF : Fram (tg ow vtT) w w := Fram.refl _ _
  obtain ⟨l, lt, hB5, hA⟩ := hA
  obtain ⟨r0, r1, r2⟩ := win_row hA
  have hnx : a0.T = 4 → ∀ {w : World}, AM C fg fc w ow s → Ret Tryz.prog 288 [ptr C.xb, i64c a0.N, pv a1] w (fun r w' => r = .tuple #[pv ((tNext (s.tabs.getD a0.N []) a1).getD (vNil, vNil)).1, pv ((tNext (s.tabs.getD a0.N []) a1).getD (vNil, vNil)).2, icv (if (tNext (s.tabs.getD a0.N []) a1).isSome then 0 else 7)] ∧ Fram none' w w') := fun q _ h => h.next288' (hn q) hk hN
  rcases hq : tNext (s.tabs.getD a0.N []) a1 with _ | ⟨k, v⟩
  · rw [hq] at hnx
    refine retp_of Tryz.func265 rfl Tryz.ntmps265 rfl ?_
    refine c_seq (fun K1 hK1 => ?_)
    refine c_reg ?_ -- region 0 call.go:146
    refine wl_new (ze_119) (fun b4 w1 hbb4 h4 F1 => ?_)
    have hneabb4 : ab < b4 := Nat.lt_of_lt_of_le hB5.lt hbb4
    have hbsb4 := Nat.le_trans hF.size hbb4
    have kh4 := hR.df b4 hbb4
    replace hB5 := F1.blkN hB5
    replace hF := hF.thenDrew.thenN F1
    replace hR := hR.thruN ((Fram.refl none' _).thenDrew.thenN F1)
    refine wl_new (ze_119) (fun b5 w2 hbb5 h5 F2 => ?_)
    have hneabb5 : ab < b5 := Nat.lt_of_lt_of_le hB5.lt hbb5
    have hbsb5 := Nat.le_trans hF.size hbb5
    have hneb4b5 : b4 < b5 := Nat.lt_of_lt_of_le h4.lt hbb5
    have kh5 := hR.df b5 hbb5
    replace hB5 := F2.blkN hB5
    replace hF := hF.thenDrew.thenN F2
    replace hR := hR.thruN ((Fram.refl none' _).thenDrew.thenN F2)
    replace h4 := F2.blkN h4
    refine wl_nil (x_then (hK1 _ _ ?_))
    clear hK1 K1
    refine forget [(0, _), (1, _), (4, _), (5, _)] ⟨rfl, rfl, rfl, rfl, trivial⟩ (fun e => ?_)
    refine c_seq (fun K2 hK2 => ?_)
    refine c_reg ?_ -- region 1 call.go:147
    refine wl (ro_move rfl) ?_
    refine wl (ro_nilCheck rfl) ?_
    refine wl (ro_indexAddrA (et := 119) (k := 3) rfl rfl ar_225 (rfl) ((by decide))) ?_
    refine wl (ro_loadAggB rfl ag_119 (hB5) (pvc_len _) (r0)) ?_
    refine wl_callP rfl en_272 (tabOf272 (s := mNext) (fun q ↦ by have := hn q; omega)) (fun pv w9 hE => bpp_pan (P := Tryz.prog) (fn := Tryz.f265) (AE.thr hX hF hR.q hE.2 ((hz hE.1).symm))) ?_
    rintro _ w3 ⟨rfl, hq3, F3⟩
    replace hB5 := F3.blkN hB5
    replace hF := hF.thenDrew.thenN F3
    replace hR := hR.thruN ((Fram.refl none' _).thenDrew.thenN F3)
    replace h4 := F3.blkN h4
    replace h5 := F3.blkN h5
    refine wl (ro_assign rfl) ?_
    refine wl_nil (x_then (hK2 _ _ ?_))
    clear hK2 K2
    refine forget [(0, _), (1, _), (4, _), (5, _), (6, _)] ⟨rfl, rfl, rfl, rfl, rfl, trivial⟩ (fun e => ?_)
    refine c_seq (fun K3 hK3 => ?_)
    refine c_piH 18 9 14 15 [0, 1, 2, 3, 4, 5, 6, 7, 8] [10, 11, 12, 13] [(16, true), (17, true)] (La ab _ _ (La b4 _ _ (La b5 _ _ (Mz C)))) mixed (by kernel_rfl) rfl (by kernel_rfl) (po_then (po_bpp)) (⟨hB5, h4, h5, hR.rz⟩) ?_ -- region 2 call.go:148
    refine wh_ro rfl (fun w hS => ro_move rfl) ?_
    refine wh_ro rfl (fun w hS => ro_nilCheck rfl) ?_
    refine wh_ro rfl (fun w hS => ro_fieldAddr (k := 1) rfl fo_89_1) ?_
    refine wh_ro rfl (fun w hS => let ⟨_, hc, h0, h1⟩ := hS.2.2.2; ro_loadB rfl sc_38 hc (h1)) ?_
    refine wh_ro rfl (fun w hS => ro_move rfl) ?_
    refine wh_ro rfl (fun w hS => ro_move rfl) ?_
    refine wh_ro rfl (fun w hS => ro_nilCheck rfl) ?_
    refine wh_ro rfl (fun w hS => ro_indexAddrA (et := 119) (k := 3) rfl rfl ar_225 (rfl) ((by decide))) ?_
    refine wh_ro rfl (fun w hS => ro_loadAggB rfl ag_119 (hS.1) (pvc_len _) (r1)) ?_
    refine wh_nx (.tuple #[pv vNil, pv vNil, icv 7]) (pvc vNil) (pvc vNil) (icv 7) rfl rfl rfl rfl rfl rfl rfl rfl rfl rfl rfl (by decide) (by decide) rfl (fun _ => rfl) (fun _ => rfl) (fun _ _ => rfl) (fun _ _ => rfl) en_288 ze_119 sz_119 rfl rfl rfl (pvc_one _) (pvc_one _) (fun w1 F => hnx ‹a0.T = 4› (hR.dr.thruN F)) (fun u F => ⟨F.blkN hB5, F.blkN h4, F.blkN h5, (hR.dr.thruN F).rz⟩) ?_
    intro b7 b8 w4 hbb7 hbb8 hneb7b8 h7 h8 F4
    have hneabb7 : ab < b7 := Nat.lt_of_lt_of_le hB5.lt hbb7
    have hbsb7 := Nat.le_trans hF.size hbb7
    have hneb4b7 : b4 < b7 := Nat.lt_of_lt_of_le h4.lt hbb7
    have hneb5b7 : b5 < b7 := Nat.lt_of_lt_of_le h5.lt hbb7
    have hneabb8 : ab < b8 := Nat.lt_of_lt_of_le hB5.lt hbb8
    have hbsb8 := Nat.le_trans hF.size hbb8
    have hneb4b8 : b4 < b8 := Nat.lt_of_lt_of_le h4.lt hbb8
    have hneb5b8 : b5 < b8 := Nat.lt_of_lt_of_le h5.lt hbb8
    have kh7 := hR.df b7 hbb7
    have kh8 := hR.df b8 hbb8
    replace hB5 := F4.blkN hB5
    replace hF := hF.thenDrew.thenN F4
    replace hR := hR.thruN ((Fram.refl none' _).thenDrew.thenN F4)
    replace h4 := F4.blkN h4
    replace h5 := F4.blkN h5
    refine x_then (hK3 _ _ ?_)
    clear hK3 K3
    refine c_seq (fun K4 hK4 => ?_)
    refine c_seq (fun K5 hK5 => ?_)
    refine c_reg ?_ -- region 3 call.go:149
    refine wl (ro_move rfl) ?_
    refine wl (ro_cmp rfl rfl rfl) ?_
    refine wl_nil (x_then (hK5 _ _ ?_))
    clear hK5 K5
    refine wc_condT rfl ?_
    refine c_reg ?_ -- region 4 call.go:150
    refine wl_callP rfl en_259 (raise259 (s := mNext)) (fun pv w9 hE => bpp_pan (P := Tryz.prog) (fn := Tryz.f265) (AE.thr hX hF hR.q hE ((hz2 ‹a0.T = 4› hq).symm))) ?_
    rintro _ _ ⟨⟩
  · rw [hq] at hnx
    refine retp_of Tryz.func265 rfl Tryz.ntmps265 rfl ?_
    refine c_seq (fun K1 hK1 => ?_)
    refine c_reg ?_ -- region 0 call.go:146
    refine wl_new (ze_119) (fun b4 w1 hbb4 h4 F1 => ?_)
    have hneabb4 : ab < b4 := Nat.lt_of_lt_of_le hB5.lt hbb4
    have hbsb4 := Nat.le_trans hF.size hbb4
    have kh4 := hR.df b4 hbb4
    replace hB5 := F1.blkN hB5
    replace hF := hF.thenDrew.thenN F1
    replace hR := hR.thruN ((Fram.refl none' _).thenDrew.thenN F1)
    refine wl_new (ze_119) (fun b5 w2 hbb5 h5 F2 => ?_)
    have hneabb5 : ab < b5 := Nat.lt_of_lt_of_le hB5.lt hbb5
    have hbsb5 := Nat.le_trans hF.size hbb5
    have hneb4b5 : b4 < b5 := Nat.lt_of_lt_of_le h4.lt hbb5
    have kh5 := hR.df b5 hbb5
    replace hB5 := F2.blkN hB5
    replace hF := hF.thenDrew.thenN F2
    replace hR := hR.thruN ((Fram.refl none' _).thenDrew.thenN F2)
    replace h4 := F2.blkN h4
    refine wl_nil (x_then (hK1 _ _ ?_))
    clear hK1 K1
    refine forget [(0, _), (1, _), (4, _), (5, _)] ⟨rfl, rfl, rfl, rfl, trivial⟩ (fun e => ?_)
    refine c_seq (fun K2 hK2 => ?_)
    refine c_reg ?_ -- region 1 call.go:147
    refine wl (ro_move rfl) ?_
    refine wl (ro_nilCheck rfl) ?_
    refine wl (ro_indexAddrA (et := 119) (k := 3) rfl rfl ar_225 (rfl) ((by decide))) ?_
    refine wl (ro_loadAggB rfl ag_119 (hB5) (pvc_len _) (r0)) ?_
    refine wl_callP rfl en_272 (tabOf272 (s := mNext) (fun q ↦ by have := hn q; omega)) (fun pv w9 hE => bpp_pan (P := Tryz.prog) (fn := Tryz.f265) (AE.thr hX hF hR.q hE.2 ((hz hE.1).symm))) ?_
    rintro _ w3 ⟨rfl, hq3, F3⟩
    replace hB5 := F3.blkN hB5
    replace hF := hF.thenDrew.thenN F3
    replace hR := hR.thruN ((Fram.refl none' _).thenDrew.thenN F3)
    replace h4 := F3.blkN h4
    replace h5 := F3.blkN h5
    refine wl (ro_assign rfl) ?_
    refine wl_nil (x_then (hK2 _ _ ?_))
    clear hK2 K2
    refine forget [(0, _), (1, _), (4, _), (5, _), (6, _)] ⟨rfl, rfl, rfl, rfl, rfl, trivial⟩ (fun e => ?_)
    refine c_seq (fun K3 hK3 => ?_)
    refine c_piH 18 9 14 15 [0, 1, 2, 3, 4, 5, 6, 7, 8] [10, 11, 12, 13] [(16, true), (17, true)] (La ab _ _ (La b4 _ _ (La b5 _ _ (Mz C)))) mixed (by kernel_rfl) rfl (by kernel_rfl) (po_then (po_bpp)) (⟨hB5, h4, h5, hR.rz⟩) ?_ -- region 2 call.go:148
    refine wh_ro rfl (fun w hS => ro_move rfl) ?_
    refine wh_ro rfl (fun w hS => ro_nilCheck rfl) ?_
    refine wh_ro rfl (fun w hS => ro_fieldAddr (k := 1) rfl fo_89_1) ?_
    refine wh_ro rfl (fun w hS => let ⟨_, hc, h0, h1⟩ := hS.2.2.2; ro_loadB rfl sc_38 hc (h1)) ?_
    refine wh_ro rfl (fun w hS => ro_move rfl) ?_
    refine wh_ro rfl (fun w hS => ro_move rfl) ?_
    refine wh_ro rfl (fun w hS => ro_nilCheck rfl) ?_
    refine wh_ro rfl (fun w hS => ro_indexAddrA (et := 119) (k := 3) rfl rfl ar_225 (rfl) ((by decide))) ?_
    refine wh_ro rfl (fun w hS => ro_loadAggB rfl ag_119 (hS.1) (pvc_len _) (r1)) ?_
    refine wh_nx (.tuple #[pv k, pv v, icv 0]) (pvc k) (pvc v) (icv 0) rfl rfl rfl rfl rfl rfl rfl rfl rfl rfl rfl (by decide) (by decide) rfl (fun _ => rfl) (fun _ => rfl) (fun _ _ => rfl) (fun _ _ => rfl) en_288 ze_119 sz_119 rfl rfl rfl (pvc_one _) (pvc_one _) (fun w1 F => hnx ‹a0.T = 4› (hR.dr.thruN F)) (fun u F => ⟨F.blkN hB5, F.blkN h4, F.blkN h5, (hR.dr.thruN F).rz⟩) ?_
    intro b7 b8 w4 hbb7 hbb8 hneb7b8 h7 h8 F4
    have hneabb7 : ab < b7 := Nat.lt_of_lt_of_le hB5.lt hbb7
    have hbsb7 := Nat.le_trans hF.size hbb7
    have hneb4b7 : b4 < b7 := Nat.lt_of_lt_of_le h4.lt hbb7
    have hneb5b7 : b5 < b7 := Nat.lt_of_lt_of_le h5.lt hbb7
    have hneabb8 : ab < b8 := Nat.lt_of_lt_of_le hB5.lt hbb8
    have hbsb8 := Nat.le_trans hF.size hbb8
    have hneb4b8 : b4 < b8 := Nat.lt_of_lt_of_le h4.lt hbb8
    have hneb5b8 : b5 < b8 := Nat.lt_of_lt_of_le h5.lt hbb8
    have kh7 := hR.df b7 hbb7
    have kh8 := hR.df b8 hbb8
    replace hB5 := F4.blkN hB5
    replace hF := hF.thenDrew.thenN F4
    replace hR := hR.thruN ((Fram.refl none' _).thenDrew.thenN F4)
    replace h4 := F4.blkN h4
    replace h5 := F4.blkN h5
    refine x_then (hK3 _ _ ?_)
    clear hK3 K3
    refine c_seq (fun K4 hK4 => ?_)
    refine c_seq (fun K5 hK5 => ?_)
    refine c_reg ?_ -- region 3 call.go:149
    refine wl (ro_move rfl) ?_
    refine wl (ro_cmp rfl rfl rfl) ?_
    refine wl_nil (x_then (hK5 _ _ ?_))
    clear hK5 K5
    refine wc_condF rfl ?_
    refine c_skip (x_then (hK4 _ _ ?_))
    clear hK4 K4
    refine forget [(4, _), (5, _), (7, _), (8, _)] ⟨rfl, rfl, rfl, rfl, trivial⟩ (fun e => ?_)
    refine c_seq (fun K6 hK6 => ?_)
    refine c_piL 3 [(0, false), (1, false), (2, true)] (fun w ↦ Blk w.heap b7 (pvc k) 119 ∧ Blk w.heap b8 (pvc v) 119) mixed (by kernel_rfl) rfl (by kernel_rfl) (po_then (po_bpp)) (⟨h7, h8⟩) ?_ -- region 5 call.go:152
    refine ql_ro rfl (fun w hS => ro_loadAggB rfl ag_119 (hS.1) rfl rfl) ?_
    refine ql_ro rfl (fun w hS => ro_loadAggB rfl ag_119 (hS.2) rfl rfl) ?_
    refine ql_putam rfl rfl rfl ((pvc_one k)) sz_119 (rfl) h4 ((by simp)) (rfl) (fun w1 hB1 F ↦ ⟨F.blkO h7 (by omega), F.blkO h8 (by omega)⟩) (fun w5 h4 F5 => ?_)
    replace hB5 := F5.blkO hB5 (by first | omega | exact ow_ne (by assumption) (by assumption) (by omega))
    replace hF := hF.thenDrew.thenO F5 (by first | exact .inr (by omega) | exact .inl rfl | exact .inl (by assumption) | assumption)
    replace hR := hR.hbput ((Fram.refl (one b4) _).thenDrew.thenO F5 (.inl rfl))
    replace h5 := F5.blkO h5 (by first | omega | exact ow_ne (by assumption) (by assumption) (by omega))
    replace h7 := F5.blkO h7 (by first | omega | exact ow_ne (by assumption) (by assumption) (by omega))
    replace h8 := F5.blkO h8 (by first | omega | exact ow_ne (by assumption) (by assumption) (by omega))
    refine ql_puta rfl rfl rfl ((pvc_one v)) sz_119 (rfl) h5 ((by simp)) (rfl) (fun w6 h5 F6 => ?_)
    replace hB5 := F6.blkO hB5 (by first | omega | exact ow_ne (by assumption) (by assumption) (by omega))
    replace hF := hF.thenDrew.thenO F6 (by first | exact .inr (by omega) | exact .inl rfl | exact .inl (by assumption) | assumption)
    replace hR := hR.hbput ((Fram.refl (one b5) _).thenDrew.thenO F6 (.inl rfl))
    replace h4 := F6.blkO h4 (by first | omega | exact ow_ne (by assumption) (by assumption) (by omega))
    replace h7 := F6.blkO h7 (by first | omega | exact ow_ne (by assumption) (by assumption) (by omega))
    replace h8 := F6.blkO h8 (by first | omega | exact ow_ne (by assumption) (by assumption) (by omega))
    refine x_then (hK6 _ _ ?_)
    clear hK6 K6
    refine c_ret ?_
    refine bqp_ret (res2 Tryz.results265 (rv_c rfl ag_119 (h4) (rfl)) (rv_c rfl ag_119 (h5) (rfl))) ?_
    exact ⟨k, v, ⟨‹a0.T = 4›, rfl⟩, rfl, _, hX, hF, hR⟩
end
end Go.Proofs.Qxb6500568aGreatDoor
