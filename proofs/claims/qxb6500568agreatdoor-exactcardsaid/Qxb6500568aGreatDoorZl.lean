import Derived.Test.Qxb6500568aGreatDoorZk
/- The compiler: fresh; loops opened and shut. -/
namespace Go.Proofs.Qxb6500568aGreatDoor
open Ieee
set_option linter.unusedVariables false
set_option linter.unusedSimpArgs false
set_option linter.unusedSectionVars false

section
variable {E : ZEnv} {w w1 u1 u2 w' : World} {ow ow' : Nat → Nat} {O : List Nat} {S : Fns} {f : ZAct} {q A : List ZAct} {R : List ZRow} {z : ZSl}
def gc2 (E : ZEnv) : Nat → Prop := fun b => b = E.gb ∨ b = E.cb
set_option maxHeartbeats 8000000 in
theorem fresh35 (hR : CM E w ow O S A) {x : Nat} {S' : Fns} (hx : x < 13) (hxA : ∀ f ∈ A, f.j ≠ x) (hSx : (fsAt S' x).np = 0 ∧ (fsAt S' x).ns = 0 ∧ (fsAt S' x).ups = [] ∧ (fsAt S' x).ks = []) (hS : ∀ k, k ≠ x → fsAt S' k = fsAt S k) :
    Ret Tryz.prog 35 [ptr E.cb, i64c x, parV E x] w (fun r w' => r = fptr E x ∧ ZP E w ow (O ++ [x]) S' (⟨x, [], [], []⟩ :: A) w') := by
  obtain ⟨R, r, m, h13, hr, hG, hm, hrow, hall⟩ := hR.row hx
  obtain ⟨rows, p1, p2⟩ := hm.k.lps
  obtain ⟨la, lc, e1⟩ := hm.k.loc.form
  obtain ⟨ua, uc, e2⟩ := hm.k.ups.form
  obtain ⟨ka, kc, e3⟩ := hm.k.ks.form
  obtain ⟨ca, cc, e4⟩ := hm.k.code.form
  obtain ⟨pa, pc, e5⟩ := p1.form
  rcases r with ⟨c0, p0, npv, r4, nsv, r6, r7, nm0, st0, r10, r11⟩
  simp only at e1 e2 e3 e4 e5
  subst e1 e2 e3 e4 e5
  have hm0 := hm
  have hC := hR.cb
  have hta := hR.ta
  have htc := hR.tc
  have hF : Fram (gc2 E) w w := Fram.refl _ _
  have hgc : E.gb ≠ E.cb := fun e => by rw [e, htc] at hta; omega
  have hgcb : gc2 E E.cb := .inr rfl
  have hggb : gc2 E E.gb := .inl rfl
  have hsl : ∀ {R' : List ZRow} {o : Nat}, R'.length = 13 → o < 11 → x * 11 + o < (rws fnc R').length := fun {R' o} h ho => by rw [rws_len fnc_len, h]; omega
  obtain ⟨po, hpo⟩ : ∃ po, parV E x = .pointer po := by unfold parV; split <;> exact ⟨_, rfl⟩
  rw [hpo]
  refine ret_of Tryz.func35 rfl Tryz.ntmps35 rfl ?_
  refine c_seq (fun K1 hK1 => ?_)
  refine c_reg ?_ -- region 0 fn.go:39
  refine wl (ro_assign rfl) ?_
  refine wl_nil (x_then (hK1 _ _ ?_))
  clear hK1 K1
  refine forget [(0, _), (1, _), (2, _)] ⟨rfl, rfl, rfl, trivial⟩ (fun e => ?_)
  refine c_seq (fun K2 hK2 => ?_)
  refine c_reg ?_ -- region 1 fn.go:40
  refine wl (ro_move rfl) ?_
  refine wl (ro_nilCheck rfl) ?_
  refine wl (ro_fieldAddr (k := 3) rfl fo_94_3) ?_
  refine wl (ro_loadB rfl sc_92 (hC) rfl) ?_
  refine wl (ro_move rfl) ?_
  refine wl (ro_indexAddr (et := 199) (k := 11) rfl rfl se_92 (rfl) (hx)) ?_
  refine wl (ro_assign rfl) ?_
  refine wl_nil (x_then (hK2 _ _ ?_))
  clear hK2 K2
  refine forget [(0, _), (1, _), (2, _), (7, _)] ⟨rfl, rfl, rfl, rfl, trivial⟩ (fun e => ?_)
  refine c_seq (fun K3 hK3 => ?_)
  rw [show 0 + x * 11 = x * 11 from Nat.zero_add _]
  refine c_reg ?_ -- region 2 fn.go:41
  refine wl (ro_move rfl) ?_
  refine wl (ro_move rfl) ?_
  refine wl (ro_nilCheck rfl) ?_
  refine wl (ro_fieldAddr (k := 4) rfl fo_94_4) ?_
  refine wl (ro_loadB rfl sc_3 (by assumption) rfl) ?_
  refine wl (ro_move rfl) ?_
  refine wl (ro_arith rfl rfl rfl (Go.IntWalk.i64_in _ (by omega))) ?_
  refine wl (ro_max rfl rfl) ?_
  refine wl (ro_nilCheck rfl) ?_
  refine wl (ro_fieldAddr (k := 4) rfl fo_94_4) ?_
  refine wl_put rfl rfl rfl sz_3 hC (by simp) (rfl) (fun w1 hC F1 => ?_)
  replace hF := hF.thenDrew.thenO F1 (by first | exact .inr (by omega) | exact .inl rfl | exact .inl (by assumption) | assumption)
  replace hG := F1.blkO hG (by first | (simp only [ne_eq, (show (E.gb ≠ E.cb ∧ E.cb ≠ E.gb) = True from eq_true ⟨hgc, hgc.symm⟩), not_false_eq_true]; done) | omega)
  rw [show (if ((x : Int) + 1 > (mx O : Int)) then ((x : Int) + 1) else (mx O : Int)) = ((max (mx O) (x + 1) : Nat) : Int) by split <;> omega] at hC
  refine wl_nil (x_then (hK3 _ _ ?_))
  clear hK3 K3
  refine forget [(0, _), (2, _), (7, _)] ⟨rfl, rfl, rfl, trivial⟩ (fun e => ?_)
  refine c_seq (fun K4 hK4 => ?_)
  refine c_reg ?_ -- region 3 fn.go:42
  refine wl (ro_move rfl) ?_
  refine wl (ro_move rfl) ?_
  refine wl (ro_nilCheck rfl) ?_
  refine wl (ro_fieldAddr (k := 0) rfl fo_199_0) ?_
  refine wl_put rfl rfl rfl sz_22 hG (hsl (by simp [h13]) (by decide)) (rfl) (fun w2 hG F2 => ?_)
  replace hC := F2.blkO hC (by first | (simp only [ne_eq, (show (E.gb ≠ E.cb ∧ E.cb ≠ E.gb) = True from eq_true ⟨hgc, hgc.symm⟩), not_false_eq_true]; done) | omega)
  replace hF := hF.thenDrew.thenO F2 (by first | exact .inr (by omega) | exact .inl rfl | exact .inl (by assumption) | assumption)
  obtain ⟨hG, hr, hrow⟩ := row_put (o := 0) ⟨ptr E.cb, p0, npv, .slice la m.loc.length lc, nsv, .slice ua m.ups.length uc, .slice ka m.ks.length kc, nm0, st0, .slice ca m.code.length cc, .slice pa m.lps.length pc⟩ hr hG (by decide) rfl
  refine wl_nil (x_then (hK4 _ _ ?_))
  clear hK4 K4
  refine forget [(2, _), (7, _)] ⟨rfl, rfl, trivial⟩ (fun e => ?_)
  refine c_seq (fun K5 hK5 => ?_)
  refine c_reg ?_ -- region 4 fn.go:43
  refine wl (ro_move rfl) ?_
  refine wl (ro_move rfl) ?_
  refine wl (ro_nilCheck rfl) ?_
  refine wl (ro_fieldAddr (k := 1) rfl fo_199_1) ?_
  refine wl_put rfl rfl rfl sz_128 hG (hsl (by simp [h13]) (by decide)) (rfl) (fun w3 hG F3 => ?_)
  replace hC := F3.blkO hC (by first | (simp only [ne_eq, (show (E.gb ≠ E.cb ∧ E.cb ≠ E.gb) = True from eq_true ⟨hgc, hgc.symm⟩), not_false_eq_true]; done) | omega)
  replace hF := hF.thenDrew.thenO F3 (by first | exact .inr (by omega) | exact .inl rfl | exact .inl (by assumption) | assumption)
  obtain ⟨hG, hr, hrow⟩ := row_put (o := 1) ⟨ptr E.cb, .pointer po, npv, .slice la m.loc.length lc, nsv, .slice ua m.ups.length uc, .slice ka m.ks.length kc, nm0, st0, .slice ca m.code.length cc, .slice pa m.lps.length pc⟩ hr hG (by decide) rfl
  refine wl_nil (x_then (hK5 _ _ ?_))
  clear hK5 K5
  refine forget [(7, _)] ⟨rfl, trivial⟩ (fun e => ?_)
  refine c_seq (fun K6 hK6 => ?_)
  refine c_reg ?_ -- region 5 fn.go:44
  refine wl (ro_move rfl) ?_
  refine wl (ro_nilCheck rfl) ?_
  refine wl (ro_fieldAddr (k := 2) rfl fo_199_2) ?_
  refine wl_put rfl rfl rfl sz_3 hG (hsl (by simp [h13]) (by decide)) (rfl) (fun w4 hG F4 => ?_)
  replace hC := F4.blkO hC (by first | (simp only [ne_eq, (show (E.gb ≠ E.cb ∧ E.cb ≠ E.gb) = True from eq_true ⟨hgc, hgc.symm⟩), not_false_eq_true]; done) | omega)
  replace hF := hF.thenDrew.thenO F4 (by first | exact .inr (by omega) | exact .inl rfl | exact .inl (by assumption) | assumption)
  obtain ⟨hG, hr, hrow⟩ := row_put (o := 2) ⟨ptr E.cb, .pointer po, i64c 0, .slice la m.loc.length lc, nsv, .slice ua m.ups.length uc, .slice ka m.ks.length kc, nm0, st0, .slice ca m.code.length cc, .slice pa m.lps.length pc⟩ hr hG (by decide) rfl
  refine wl_nil (x_then (hK6 _ _ ?_))
  clear hK6 K6
  refine forget [(7, _)] ⟨rfl, trivial⟩ (fun e => ?_)
  refine c_seq (fun K7 hK7 => ?_)
  refine c_reg ?_ -- region 6 fn.go:45
  refine wl (ro_move rfl) ?_
  refine wl (ro_nilCheck rfl) ?_
  refine wl (ro_fieldAddr (k := 4) rfl fo_199_4) ?_
  refine wl_put rfl rfl rfl sz_3 hG (hsl (by simp [h13]) (by decide)) (rfl) (fun w5 hG F5 => ?_)
  replace hC := F5.blkO hC (by first | (simp only [ne_eq, (show (E.gb ≠ E.cb ∧ E.cb ≠ E.gb) = True from eq_true ⟨hgc, hgc.symm⟩), not_false_eq_true]; done) | omega)
  replace hF := hF.thenDrew.thenO F5 (by first | exact .inr (by omega) | exact .inl rfl | exact .inl (by assumption) | assumption)
  obtain ⟨hG, hr, hrow⟩ := row_put (o := 4) ⟨ptr E.cb, .pointer po, i64c 0, .slice la m.loc.length lc, i64c 0, .slice ua m.ups.length uc, .slice ka m.ks.length kc, nm0, st0, .slice ca m.code.length cc, .slice pa m.lps.length pc⟩ hr hG (by decide) rfl
  refine wl_nil (x_then (hK7 _ _ ?_))
  clear hK7 K7
  refine forget [(7, _)] ⟨rfl, trivial⟩ (fun e => ?_)
  refine c_seq (fun K8 hK8 => ?_)
  refine c_reg ?_ -- region 7 fn.go:46
  refine wl (ro_move rfl) ?_
  refine wl (ro_move rfl) ?_
  refine wl (ro_nilCheck rfl) ?_
  refine wl (ro_fieldAddr (k := 3) rfl fo_199_3) ?_
  refine wl (ro_loadB rfl sc_192 (hG) (hrow 3 (by decide))) ?_
  refine wl (ro_sliceH (h := 0) rfl rfl se_192 rfl (by omega)) ?_
  refine wl (ro_nilCheck rfl) ?_
  refine wl (ro_fieldAddr (k := 3) rfl fo_199_3) ?_
  refine wl_put rfl rfl rfl sz_192 hG (hsl (by simp [h13]) (by decide)) (rfl) (fun w6 hG F6 => ?_)
  replace hC := F6.blkO hC (by first | (simp only [ne_eq, (show (E.gb ≠ E.cb ∧ E.cb ≠ E.gb) = True from eq_true ⟨hgc, hgc.symm⟩), not_false_eq_true]; done) | omega)
  replace hF := hF.thenDrew.thenO F6 (by first | exact .inr (by omega) | exact .inl rfl | exact .inl (by assumption) | assumption)
  obtain ⟨hG, hr, hrow⟩ := row_put (o := 3) ⟨ptr E.cb, .pointer po, i64c 0, .slice la 0 lc, i64c 0, .slice ua m.ups.length uc, .slice ka m.ks.length kc, nm0, st0, .slice ca m.code.length cc, .slice pa m.lps.length pc⟩ hr hG (by decide) rfl
  refine wl_nil (x_then (hK8 _ _ ?_))
  clear hK8 K8
  refine forget [(7, _)] ⟨rfl, trivial⟩ (fun e => ?_)
  refine c_seq (fun K9 hK9 => ?_)
  refine c_reg ?_ -- region 8 fn.go:47
  refine wl (ro_move rfl) ?_
  refine wl (ro_move rfl) ?_
  refine wl (ro_nilCheck rfl) ?_
  refine wl (ro_fieldAddr (k := 5) rfl fo_199_5) ?_
  refine wl (ro_loadB rfl sc_193 (hG) (hrow 5 (by decide))) ?_
  refine wl (ro_sliceH (h := 0) rfl rfl se_193 rfl (by omega)) ?_
  refine wl (ro_nilCheck rfl) ?_
  refine wl (ro_fieldAddr (k := 5) rfl fo_199_5) ?_
  refine wl_put rfl rfl rfl sz_193 hG (hsl (by simp [h13]) (by decide)) (rfl) (fun w7 hG F7 => ?_)
  replace hC := F7.blkO hC (by first | (simp only [ne_eq, (show (E.gb ≠ E.cb ∧ E.cb ≠ E.gb) = True from eq_true ⟨hgc, hgc.symm⟩), not_false_eq_true]; done) | omega)
  replace hF := hF.thenDrew.thenO F7 (by first | exact .inr (by omega) | exact .inl rfl | exact .inl (by assumption) | assumption)
  obtain ⟨hG, hr, hrow⟩ := row_put (o := 5) ⟨ptr E.cb, .pointer po, i64c 0, .slice la 0 lc, i64c 0, .slice ua 0 uc, .slice ka m.ks.length kc, nm0, st0, .slice ca m.code.length cc, .slice pa m.lps.length pc⟩ hr hG (by decide) rfl
  refine wl_nil (x_then (hK9 _ _ ?_))
  clear hK9 K9
  refine forget [(7, _)] ⟨rfl, trivial⟩ (fun e => ?_)
  refine c_seq (fun K10 hK10 => ?_)
  refine c_reg ?_ -- region 9 fn.go:48
  refine wl (ro_move rfl) ?_
  refine wl (ro_move rfl) ?_
  refine wl (ro_nilCheck rfl) ?_
  refine wl (ro_fieldAddr (k := 6) rfl fo_199_6) ?_
  refine wl (ro_loadB rfl sc_83 (hG) (hrow 6 (by decide))) ?_
  refine wl (ro_sliceH (h := 0) rfl rfl se_83 rfl (by omega)) ?_
  refine wl (ro_nilCheck rfl) ?_
  refine wl (ro_fieldAddr (k := 6) rfl fo_199_6) ?_
  refine wl_put rfl rfl rfl sz_83 hG (hsl (by simp [h13]) (by decide)) (rfl) (fun w8 hG F8 => ?_)
  replace hC := F8.blkO hC (by first | (simp only [ne_eq, (show (E.gb ≠ E.cb ∧ E.cb ≠ E.gb) = True from eq_true ⟨hgc, hgc.symm⟩), not_false_eq_true]; done) | omega)
  replace hF := hF.thenDrew.thenO F8 (by first | exact .inr (by omega) | exact .inl rfl | exact .inl (by assumption) | assumption)
  obtain ⟨hG, hr, hrow⟩ := row_put (o := 6) ⟨ptr E.cb, .pointer po, i64c 0, .slice la 0 lc, i64c 0, .slice ua 0 uc, .slice ka 0 kc, nm0, st0, .slice ca m.code.length cc, .slice pa m.lps.length pc⟩ hr hG (by decide) rfl
  refine wl_nil (x_then (hK10 _ _ ?_))
  clear hK10 K10
  refine forget [(7, _)] ⟨rfl, trivial⟩ (fun e => ?_)
  refine c_seq (fun K11 hK11 => ?_)
  refine c_reg ?_ -- region 10 fn.go:49
  refine wl (ro_move rfl) ?_
  refine wl (ro_move rfl) ?_
  refine wl (ro_nilCheck rfl) ?_
  refine wl (ro_fieldAddr (k := 9) rfl fo_199_9) ?_
  refine wl (ro_loadB rfl sc_196 (hG) (hrow 9 (by decide))) ?_
  refine wl (ro_sliceH (h := 0) rfl rfl se_196 rfl (by omega)) ?_
  refine wl (ro_nilCheck rfl) ?_
  refine wl (ro_fieldAddr (k := 9) rfl fo_199_9) ?_
  refine wl_put rfl rfl rfl sz_196 hG (hsl (by simp [h13]) (by decide)) (rfl) (fun w9 hG F9 => ?_)
  replace hC := F9.blkO hC (by first | (simp only [ne_eq, (show (E.gb ≠ E.cb ∧ E.cb ≠ E.gb) = True from eq_true ⟨hgc, hgc.symm⟩), not_false_eq_true]; done) | omega)
  replace hF := hF.thenDrew.thenO F9 (by first | exact .inr (by omega) | exact .inl rfl | exact .inl (by assumption) | assumption)
  obtain ⟨hG, hr, hrow⟩ := row_put (o := 9) ⟨ptr E.cb, .pointer po, i64c 0, .slice la 0 lc, i64c 0, .slice ua 0 uc, .slice ka 0 kc, nm0, st0, .slice ca 0 cc, .slice pa m.lps.length pc⟩ hr hG (by decide) rfl
  refine wl_nil (x_then (hK11 _ _ ?_))
  clear hK11 K11
  refine forget [(7, _)] ⟨rfl, trivial⟩ (fun e => ?_)
  refine c_seq (fun K12 hK12 => ?_)
  refine c_reg ?_ -- region 11 fn.go:50
  refine wl (ro_move rfl) ?_
  refine wl (ro_move rfl) ?_
  refine wl (ro_nilCheck rfl) ?_
  refine wl (ro_fieldAddr (k := 10) rfl fo_199_10) ?_
  refine wl (ro_loadB rfl sc_197 (hG) (hrow 10 (by decide))) ?_
  refine wl (ro_sliceH (h := 0) rfl rfl se_197 rfl (by omega)) ?_
  refine wl (ro_nilCheck rfl) ?_
  refine wl (ro_fieldAddr (k := 10) rfl fo_199_10) ?_
  refine wl_put rfl rfl rfl sz_197 hG (hsl (by simp [h13]) (by decide)) (rfl) (fun w10 hG F10 => ?_)
  replace hC := F10.blkO hC (by first | (simp only [ne_eq, (show (E.gb ≠ E.cb ∧ E.cb ≠ E.gb) = True from eq_true ⟨hgc, hgc.symm⟩), not_false_eq_true]; done) | omega)
  replace hF := hF.thenDrew.thenO F10 (by first | exact .inr (by omega) | exact .inl rfl | exact .inl (by assumption) | assumption)
  obtain ⟨hG, hr, hrow⟩ := row_put (o := 10) ⟨ptr E.cb, .pointer po, i64c 0, .slice la 0 lc, i64c 0, .slice ua 0 uc, .slice ka 0 kc, nm0, st0, .slice ca 0 cc, .slice pa 0 pc⟩ hr hG (by decide) rfl
  refine wl_nil (x_then (hK12 _ _ ?_))
  clear hK12 K12
  refine forget [(7, _)] ⟨rfl, trivial⟩ (fun e => ?_)
  refine c_seq (fun K13 hK13 => ?_)
  refine c_reg ?_ -- region 12 fn.go:51
  refine wl (ro_move rfl) ?_
  refine wl_mfNew u64c u16c (fun bn wn hbn hMn Fn => ?_)
  replace hC := Fn.blkN hC
  replace hG := Fn.blkN hG
  have hszn := hF.size
  replace hF := hF.thenDrew.thenN Fn
  have hnln := hMn.lt
  have hbng : bn ≠ E.gb := hMn.blk_ne hG
  refine wl (ro_nilCheck rfl) ?_
  refine wl (ro_fieldAddr (k := 7) rfl fo_199_7) ?_
  refine wl_put rfl rfl rfl sz_194 hG (hsl (by simp [h13]) (by decide)) (rfl) (fun w11 hG F11 => ?_)
  replace hC := F11.blkO hC (by first | (simp only [ne_eq, (show (E.gb ≠ E.cb ∧ E.cb ≠ E.gb) = True from eq_true ⟨hgc, hgc.symm⟩), not_false_eq_true]; done) | omega)
  replace hF := hF.thenDrew.thenO F11 (by first | exact .inr (by omega) | exact .inl rfl | exact .inl (by assumption) | assumption)
  obtain ⟨hG, hr, hrow⟩ := row_put (o := 7) ⟨ptr E.cb, .pointer po, i64c 0, .slice la 0 lc, i64c 0, .slice ua 0 uc, .slice ka 0 kc, .map (some bn), st0, .slice ca 0 cc, .slice pa 0 pc⟩ hr hG (by decide) rfl
  replace hMn := hMn.framO F11 hbng
  have hbnl := Nat.lt_of_lt_of_le hnln (F11).size
  refine wl_nil (x_then (hK13 _ _ ?_))
  clear hK13 K13
  refine forget [(7, _)] ⟨rfl, trivial⟩ (fun e => ?_)
  refine c_seq (fun K14 hK14 => ?_)
  refine c_reg ?_ -- region 13 fn.go:52
  refine wl (ro_move rfl) ?_
  refine wl_mfNew Go.Proofs.Qxb6500568aGreatDoor.S u16c (fun bs ws hbs hMs Fs => ?_)
  replace hC := Fs.blkN hC
  replace hG := Fs.blkN hG
  have hszs := hF.size
  replace hF := hF.thenDrew.thenN Fs
  replace hMn := hMn.framN Fs
  have hbsg : bs ≠ E.gb := hMs.blk_ne hG
  refine wl (ro_nilCheck rfl) ?_
  refine wl (ro_fieldAddr (k := 8) rfl fo_199_8) ?_
  refine wl_put rfl rfl rfl sz_195 hG (hsl (by simp [h13]) (by decide)) (rfl) (fun w12 hG F12 => ?_)
  replace hC := F12.blkO hC (by first | (simp only [ne_eq, (show (E.gb ≠ E.cb ∧ E.cb ≠ E.gb) = True from eq_true ⟨hgc, hgc.symm⟩), not_false_eq_true]; done) | omega)
  replace hF := hF.thenDrew.thenO F12 (by first | exact .inr (by omega) | exact .inl rfl | exact .inl (by assumption) | assumption)
  obtain ⟨hG, hr, hrow⟩ := row_put (o := 8) ⟨ptr E.cb, .pointer po, i64c 0, .slice la 0 lc, i64c 0, .slice ua 0 uc, .slice ka 0 kc, .map (some bn), .map (some bs), .slice ca 0 cc, .slice pa 0 pc⟩ hr hG (by decide) rfl
  replace hMn := hMn.framO F12 hbng
  replace hMs := hMs.framO F12 hbsg
  refine wl_nil (x_then (hK14 _ _ ?_))
  clear hK14 K14
  refine forget [(7, _)] ⟨rfl, trivial⟩ (fun e => ?_)
  refine c_seq (fun K15 hK15 => ?_)
  refine c_reg ?_ -- region 14 fn.go:53
  refine wl (ro_move rfl) ?_
  refine wl (ro_assign rfl) ?_
  refine wl_nil (x_then (hK15 _ _ ?_))
  clear hK15 K15
  refine c_ret ?_
  refine bp_ret Tryz.results35 rfl ?_
  simp only [List.set_set] at hG
  rw [← hpo] at hG
  obtain ⟨ow', x1, hR'⟩ := hR.push (S' := S') hx hxA h13 hall hm0 hF (by omega) (by omega) (by omega) hC hG hMn hMs hSx hS
  refine ⟨rfl, ow', x1, hF.mono (fun b _ y ↦ ?_), hR'⟩
  rcases y with y | y
  · show cpT (ow b)
    rw [y, hta]; unfold cpT; omega
  · show cpT (ow b)
    rw [y, htc]; unfold cpT; omega
/-- the loops turned. -/
theorem CM.lpsS (h : CM E w ow O S (f :: q)) (op : ZOp E w ow O S (f :: q) f R z) {lps' : List (Nat × List Nat)} {rows' : List Value} {va : Option Addr} {vc : Nat} (hF : Fram none' w w1) (hon : Own u1.heap (.slice va lps'.length vc) 278 2 lps'.length rows') (G1 : Fram (own1 (.slice z.pa f.lps.length z.pc)) w1 u1) (hnb : nob (.slice z.pa f.lps.length z.pc) (.slice va lps'.length vc) w1)
    (fr : Fram (one E.gb) u1 u2) (hB : Blk u2.heap E.gb ((rws fnc R).set (f.j * 11 + 10) (.slice va lps'.length vc)) 199) (hlp : ∀ {ow' : Nat → Nat}, Xt w ow ow' → Fram (fun b => b = E.gb ∨ ow b = 280 + f.j) w u2 → LpM E u2 ow' f.j lps' rows') : ∃ ow', Xt w ow ow' ∧ Fram (fun b => b = E.gb ∨ ow b = 280 + f.j) w u2 ∧ CM E u2 ow' O S ({ f with lps := lps' } :: q) := by
  have hj := op.j
  obtain ⟨rows, p1, p2⟩ := op.lps
  obtain ⟨x1, x2, x3⟩ := zapp3 h.ta h.gl p1 hF hon G1 hnb fr (by omega)
  have hfr := frF_of (E := E) (j := f.j) x3 (by unfold fnT; omega)
  refine ⟨_, x1, x3, h.head hfr x1 (cut66_df _ _) op rfl (r' := mkR E S { f with lps := lps' } { z with pa := va, pc := vc }) (op.set (o := 10) hB (by decide) rfl) ⟨op.loc.off x3 x1 h.ta (by omega) (by omega), op.ups.off x3 x1 h.ta (by omega) (by omega), op.ks.off x3 x1 h.ta (by omega) (by omega), op.code.off x3 x1 h.ta (by omega) (by omega), rows', x2, hlp x1 x3⟩ ⟨rfl, rfl, rfl, rfl, rfl, rfl, ⟨_, rfl, op.nums.1.fram x3 (off_ne h.ta op.nums.2 (by omega) (by omega)), by rw [x1 _ op.nums.1.lt]; exact op.nums.2⟩, ⟨_, rfl, op.strs.1.fram x3 (off_ne h.ta op.strs.2 (by omega) (by omega)), by rw [x1 _ op.strs.1.lt]; exact op.strs.2⟩⟩ (fun _ _ => rfl)⟩
theorem CM.frL (h : CM E w ow O S A) {j : Nat} (hj : j < 13) (f : Fram (fun b => b = E.gb ∨ ow b = 280 + j) w w') : Fram (tg ow cpT) w w' := f.mono (fun b _ q => q.elim (fun q => by show cpT (ow b); rw [q, h.ta]; unfold cpT; omega) (fun q => by show cpT (ow b); rw [q]; unfold cpT; omega))
set_option maxHeartbeats 4000000 in
theorem open235 (hR : CM E w ow O S (f :: q)) {base : Nat} (hl : f.lps.length ≤ 100000) :
    Ret Tryz.prog 235 [fptr E f.j, i64c base] w (fun r w' => r = .tuple #[] ∧ ZP E w ow O S ({ f with lps := (base, []) :: f.lps } :: q) w') := by
  have hF : Fram none' w w := Fram.refl _ _
  obtain ⟨R_, z_, op⟩ := hR.open (f := f) (by simp)
  have hG := op.B
  have hta := hR.ta
  have hj := op.j
  obtain ⟨rows, p1, p2⟩ := op.lps
  have hob : ∀ c, own1 (.slice z_.pa f.lps.length z_.pc) c → c ≠ E.gb := fun c y e => by have := p1.t _ y; rw [e, hta] at this; omega
  refine ret_of Tryz.func235 rfl Tryz.ntmps235 rfl ?_
  refine c_reg ?_ -- region 0 stmt.go:76
  refine wl (ro_move rfl) ?_
  refine wl (ro_move rfl) ?_
  refine wl (ro_nilCheck rfl) ?_
  refine wl (ro_fieldAddr (k := 10) rfl fo_199_10) ?_
  refine wl (ro_loadB rfl sc_197 hG (op.row 10 (by decide))) ?_
  refine wl (ro_move rfl) ?_
  refine wl (ro_build rfl bld_278_0) ?_
  refine wl_bsapp (t := 197) (et := 278) (k := 2) (m := f.lps.length) (cs := [i64c base, .slice none 0 0]) rfl rfl rfl rfl se_197 zx_278 by_278 rfl rfl rfl (by simp [Value.oneCell', i64c]) p1.o (by omega) (by omega) ?_
  intro v' u1 hon G1 hnb
  have el : f.lps.length + 1 = ((base, []) :: f.lps).length := rfl
  rw [el] at hon
  obtain ⟨va, vc, rfl⟩ := hon.form
  replace hG := G1.blkF hG (fun y => hob _ y rfl)
  skip
  refine wl (ro_nilCheck rfl) ?_
  refine wl (ro_fieldAddr (k := 10) rfl fo_199_10) ?_
  refine wl_put rfl rfl rfl sz_197 hG ((by show _ < (rws fnc R_).length; rw [rws_len fnc_len, op.l]; omega)) (rfl) (fun w1 hG F1 => ?_)
  have hF3 := (F1)
  refine wl_nil ?_
  refine bp_end Tryz.results235 rfl ?_
  obtain ⟨ow', x1, x2, x3⟩ := hR.lpsS op hF hon G1 hnb hF3 hG (fun {ow'} hx hf ↦ ⟨rows, .slice none 0 0, [], rfl, OwT.nil _ _ _ _ _, fun i p hp ↦ (by cases hp), p2.off hf hx hta (by omega)⟩)
  exact ⟨rfl, ow', x1, hR.frL hj x2, x3⟩
end
end Go.Proofs.Qxb6500568aGreatDoor
