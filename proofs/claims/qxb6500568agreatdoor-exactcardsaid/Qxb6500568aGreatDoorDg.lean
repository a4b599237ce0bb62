import Derived.Test.Qxb6500568aGreatDoorDf
/- The real tables: Make. -/
namespace Go.Proofs.Qxb6500568aGreatDoor
open Ieee
set_option linter.unusedVariables false
set_option linter.unusedSimpArgs false

theorem absT_succ {L : List TM} {cnt : Nat} {m : TM} (h : L[cnt]? = some m) : absT L (cnt + 1) = absT L cnt ++ [m.R.ord] := by
  unfold absT
  rw [List.take_add_one, h, List.map_append]
  rfl
set_option maxHeartbeats 8000000 in
theorem Make86 {w : World} {ow : Nat → Nat} {nb xb : Nat} {T : List Tb} (hM : RTab w ow nb xb T) : Ret Tryz.prog 86 [ptr xb] w (fun r w' => (if 12 ≤ T.length then r = .tuple #[icv (-1), icv 8] ∧ RTab w' ow nb xb T ∧ Fram none' w w' else r = .tuple #[i64c T.length, icv 0] ∧ ∃ ow', Xt w ow ow' ∧ RTab w' ow' nb xb (T ++ [[]]) ∧ Fram (tg ow rtag) w w')) := by
  have hF : Fram (tg ow rtag) w w := Fram.refl _ _
  obtain ⟨L, cnt, hL, rfl⟩ := hM
  obtain ⟨V, hX, hV⟩ := hL.x
  obtain ⟨a, cap, rfl⟩ := hV.form
  have hXl := hX.lt
  have hl12 := hL.l12
  have hcl := hL.cl
  have hmx : tg ow rtag xb := .inl hL.xt
  rw [absT_len hcl]
  refine ret_of Tryz.func86 rfl Tryz.ntmps86 rfl ?_
  refine c_seq (fun K1 hK1 => ?_)
  refine c_reg ?_ -- region 0 table.go:59
  refine wl (ro_assign rfl) ?_
  refine wl (ro_assign rfl) ?_
  refine wl_nil (x_then (hK1 _ _ ?_))
  clear hK1 K1
  refine c_seq (fun K2 hK2 => ?_)
  refine c_seq (fun K3 hK3 => ?_)
  refine c_reg ?_ -- region 1 table.go:60
  refine wl (ro_move rfl) ?_
  refine wl (ro_nilCheck rfl) ?_
  refine wl (ro_fieldAddr (k := 2) rfl fo_75_2) ?_
  refine wl (ro_loadB rfl sc_3 (by assumption) rfl) ?_
  refine wl (ro_cmp rfl rfl rfl) ?_
  refine wl_nil (x_then (hK3 _ _ ?_))
  clear hK3 K3
  refine wc_cond rfl (fun hc10 => ?_) (fun hc10 => ?_)
  · try simp only [decide_eq_true_eq, decide_eq_false_iff_not, Bool.not_eq_true', Bool.not_eq_false', Bool.not_eq_eq_eq_not, Bool.not_true, Bool.not_false, beq_iff_eq, bne_iff_ne, ne_eq, beq_eq_false_iff_ne, bne_eq_false_iff_eq, gt_iff_lt, ge_iff_le, Int.not_lt, Int.not_le] at hc10
    refine c_seq (fun K4 hK4 => ?_)
    refine c_reg ?_ -- region 2 table.go:61
    refine wl (ro_assign rfl) ?_
    refine wl (ro_assign rfl) ?_
    refine wl_nil (x_then (hK4 _ _ ?_))
    clear hK4 K4
    refine c_ret (x_thenR ?_)
    refine bp_ret Tryz.results86 rfl ?_
    rw [if_pos (by omega)]
    exact ⟨rfl, ⟨L, cnt, hL, rfl⟩, Fram.refl _ _⟩
  · try simp only [decide_eq_true_eq, decide_eq_false_iff_not, Bool.not_eq_true', Bool.not_eq_false', Bool.not_eq_eq_eq_not, Bool.not_true, Bool.not_false, beq_iff_eq, bne_iff_ne, ne_eq, beq_eq_false_iff_ne, bne_eq_false_iff_eq, gt_iff_lt, ge_iff_le, Int.not_lt, Int.not_le] at hc10
    refine c_skip (x_then (hK2 _ _ ?_))
    clear hK2 K2
    refine c_seq (fun K5 hK5 => ?_)
    refine c_seq (fun K6 hK6 => ?_)
    refine c_pi [(0, false), (1, false), (2, false), (3, false), (4, false), (5, false), (6, false), (7, false), (8, false), (9, false)] (SameH _) mixed (by kernel_rfl) rfl (by kernel_rfl) (po_then (po_then (po_bp))) (sameH_now _ _) ?_ -- region 3 table.go:63
    refine pi_ro rfl (fun w hS => ro_move rfl) ?_
    refine pi_ro rfl (fun w hS => ro_nilCheck rfl) ?_
    refine pi_ro rfl (fun w hS => ro_fieldAddr (k := 2) rfl fo_75_2) ?_
    refine pi_ro rfl (fun w hS => ro_loadB rfl sc_3 ((Blk.of_heap hX hS)) (rfl)) ?_
    refine pi_ro rfl (fun w hS => ro_move rfl) ?_
    refine pi_ro rfl (fun w hS => ro_nilCheck rfl) ?_
    refine pi_ro rfl (fun w hS => ro_fieldAddr (k := 1) rfl fo_75_1) ?_
    refine pi_ro rfl (fun w hS => ro_loadB rfl sc_73 ((Blk.of_heap hX hS)) (rfl)) ?_
    refine pi_ro rfl (fun w hS => ro_lenL rfl se_73) ?_
    refine pi_ro rfl (fun w hS => ro_cmp rfl rfl rfl) ?_
    refine pi_nil (x_then (hK6 _ _ ?_))
    clear hK6 K6
    refine wc_cond rfl (fun hc20 => ?_) (fun hc20 => ?_)
    · try simp only [decide_eq_true_eq, decide_eq_false_iff_not, Bool.not_eq_true', Bool.not_eq_false', Bool.not_eq_eq_eq_not, Bool.not_true, Bool.not_false, beq_iff_eq, bne_iff_ne, ne_eq, beq_eq_false_iff_ne, bne_eq_false_iff_eq, gt_iff_lt, ge_iff_le, Int.not_lt, Int.not_le] at hc20
      have hcL : cnt = L.length := by omega
      have hF0 : Fram none' w _ := Fram.drew none' w (w.drawn + 1)
      refine c_seq (fun K7 hK7 => ?_)
      refine c_reg ?_ -- region 4 table.go:64
      refine wl_mfNew u64c i32c ?_
      intro r1 u1 hr1 hN G1
      replace hr1 : w.heap.size ≤ r1 := hr1
      have z0 : w.heap.size ≤ u1.heap.size := G1.size
      replace hF := hF.transG G1 (by intro k hk h; simp only [none', one] at h ⊢ <;> omega)
      replace hX := G1.blkF hX (by intro h; simp only [none', one] at h <;> omega)
      replace hF0 := hF0.transG G1 (by intro k hk h; simp only [none', one] at h ⊢ <;> omega)
      refine wl_mfNew S i32c ?_
      intro r2 u2 hr2 hS2 G2
      have hr1l := hN.lt
      have z1 := G2.size
      replace hF := hF.transG G2 (by intro k hk h; simp only [none', one] at h ⊢ <;> omega)
      replace hX := G2.blkF hX (by intro h; simp only [none', one] at h <;> omega)
      replace hF0 := hF0.transG G2 (by intro k hk h; simp only [none', one] at h ⊢ <;> omega)
      replace hN := hN.framN G2
      refine wl_mfNew u64c i32c ?_
      intro r3 u3 hr3 hR G3
      have hr2l := hS2.lt
      have z2 := G3.size
      replace hF := hF.transG G3 (by intro k hk h; simp only [none', one] at h ⊢ <;> omega)
      replace hX := G3.blkF hX (by intro h; simp only [none', one] at h <;> omega)
      replace hF0 := hF0.transG G3 (by intro k hk h; simp only [none', one] at h ⊢ <;> omega)
      replace hN := hN.framN G3
      replace hS2 := hS2.framN G3
      have hr3l := hR.lt
      refine wl (ro_build rfl bld_251_2_3_4) ?_
      refine wl_new (ze_251) (fun b4 w1 hbb4 h4 F1 => ?_)
      have hbsb4 := Nat.le_trans hF.size hbb4
      have hnexbb4 : xb < b4 := Nat.lt_of_lt_of_le hX.lt hbb4
      have hbsb4 := Nat.le_trans hF0.size hbb4
      replace hF := hF.thenDrew.thenN F1
      replace hX := F1.blkN hX
      replace hF0 := hF0.thenDrew.thenN F1
      replace hN := hN.framN F1
      replace hS2 := hS2.framN F1
      replace hR := hR.framN F1
      refine wl_puta rfl rfl ((by simp [Value.oneCell', i64c])) sz_251 (rfl) h4 ((by simp)) (rfl) (fun w2 h4 F2 => ?_)
      replace hF := hF.thenDrew.thenO F2 (by first | exact .inr (by omega) | exact .inl rfl | exact .inl (by assumption) | assumption)
      replace hX := F2.blkO hX (by omega)
      replace hF0 := hF0.thenDrew.thenO F2 (by first | exact .inr (by omega) | exact .inl rfl | exact .inl (by assumption) | assumption)
      replace hN := hN.framO F2 (by omega)
      replace hS2 := hS2.framO F2 (by omega)
      replace hR := hR.framO F2 (by omega)
      refine wl_nil (x_then (hK7 _ _ ?_))
      clear hK7 K7
      refine forget [(0, _), (4, _)] ⟨rfl, rfl, trivial⟩ (fun e => ?_)
      refine c_seq (fun K8 hK8 => ?_)
      refine c_pi [(0, false), (1, false), (2, false), (3, false), (4, false), (5, true), (6, true), (7, false)] (fun u => Blk u.heap xb [ptr nb, .slice a L.length cap, i64c cnt] 75 ∧ Blk u.heap b4 [.slice none 0 0, .slice none 0 0, .map (some r1), .map (some r2), .map (some r3), .int .i64 0] 251) mixed (by kernel_rfl) rfl (by kernel_rfl) (po_then (po_then (po_bp))) (⟨hX, h4⟩) ?_ -- region 5 table.go:65
      refine pi_ro rfl (fun w hS => ro_move rfl) ?_
      refine pi_ro rfl (fun w hS => ro_nilCheck rfl) ?_
      refine pi_ro rfl (fun w hS => ro_fieldAddr (k := 1) rfl fo_75_1) ?_
      refine pi_ro rfl (fun w hS => ro_loadB rfl sc_73 (hS.1) (rfl)) ?_
      refine pi_ro rfl (fun w hS => ro_loadAggB rfl ag_251 (hS.2) (rfl) (rfl)) ?_
      refine pi_bsapp (t := 73) (et := 251) (k := 6) (cs := tmc ⟨.slice none 0 0, .slice none 0 0, r1, r2, r3, rt0⟩) rfl rfl rfl rfl rfl rfl se_73 zx_251 by_251 rfl rfl rfl (by simp [tmc, Value.oneCell', i64c]) (hV.o.fram hF0.thenDrew (fun _ _ h => h)) (by omega) (by omega) (fun w1 F ↦ ⟨F.blkN hX, F.blkN h4⟩) (fun w1 F ↦ ⟨F.blkF hX (fun h ↦ by have := hV.t _ h; rw [hL.xt] at this; omega), F.blkF h4 (fun h ↦ by have := hV.o.lt h; omega)⟩) ?_
      intro v' u5 hon G5 hnb
      obtain ⟨a', cap', rfl⟩ := hon.form
      replace hX := G5.blkF hX (fun h ↦ by have := hV.t _ h; rw [hL.xt] at this; omega)
      replace hF := hF.transG G5 (fun k hk q ↦ .inr (.inl (hV.t _ q)))
      have hol : ∀ b, own1 (.slice a L.length cap) b → b < w.heap.size := fun b h => hV.o.lt h
      replace hN : MF u64c i32c u5.heap r1 (fun _ ↦ none) := MF.fram (w := { w2 with drawn := w2.drawn + 1 }) hN G5 (fun h ↦ by have := hol _ h; omega)
      replace hS2 : MF S i32c u5.heap r2 (fun _ ↦ none) := MF.fram (w := { w2 with drawn := w2.drawn + 1 }) hS2 G5 (fun h ↦ by have := hol _ h; omega)
      replace hR : MF u64c i32c u5.heap r3 (fun _ ↦ none) := MF.fram (w := { w2 with drawn := w2.drawn + 1 }) hR G5 (fun h ↦ by have := hol _ h; omega)
      have hb4r : ∀ b, r1 = b ∨ r2 = b ∨ r3 = b → ∀ l, ¬ Blk u5.heap b l 251 := fun b h l hB => by
        rcases h with h | h | h
        · subst h; exact hN.blk_ne hB rfl
        · subst h; exact hS2.blk_ne hB rfl
        · subst h; exact hR.blk_ne hB rfl
      have hz5 := G5.size
      have hz6 := hF0.size
      have hF1 : Fram (own1 (.slice a L.length cap)) w u5 := hF0.wide.transG G5 (fun _ _ h => h)
      have hsz : w.heap.size ≤ w2.heap.size := hF0.size
      skip
      refine pi_ro rfl (fun w hS => ro_assign rfl) ?_
      refine pi_nil (x_then (hK8 _ _ ?_))
      clear hK8 K8
      refine c_reg ?_ -- region 6 table.go:66
      refine wl (ro_move rfl) ?_
      refine wl (ro_move rfl) ?_
      refine wl (ro_nilCheck rfl) ?_
      refine wl (ro_fieldAddr (k := 1) rfl fo_75_1) ?_
      refine wl_put rfl rfl rfl sz_73 hX ((by simp)) (rfl) (fun w3 hX F3 => ?_)
      replace hF := hF.thenDrew.thenO F3 (by first | exact .inr (by omega) | exact .inl rfl | exact .inl (by assumption) | assumption)
      replace hN := hN.framO F3 (by omega)
      replace hS2 := hS2.framO F3 (by omega)
      replace hR := hR.framO F3 (by omega)
      have hW1 := (F3)
      refine wl_nil (x_then (hK5 _ _ ?_))
      clear hK5 K5
      refine forget [(0, _)] ⟨rfl, trivial⟩ (fun e => ?_)
      refine c_seq (fun K9 hK9 => ?_)
      refine c_reg ?_ -- region 7 table.go:68
      refine wl (ro_move rfl) ?_
      refine wl (ro_nilCheck rfl) ?_
      refine wl (ro_fieldAddr (k := 2) rfl fo_75_2) ?_
      refine wl (ro_loadB rfl sc_3 (by assumption) rfl) ?_
      refine wl (ro_arith rfl rfl rfl (Go.IntWalk.i64_in _ (by omega))) ?_
      refine wl (ro_nilCheck rfl) ?_
      refine wl (ro_fieldAddr (k := 2) rfl fo_75_2) ?_
      refine wl_put rfl rfl rfl sz_3 hX ((by simp)) (rfl) (fun w4 hX F4 => ?_)
      replace hF := hF.thenDrew.thenO F4 (by first | exact .inr (by omega) | exact .inl rfl | exact .inl (by assumption) | assumption)
      replace hN := hN.framO F4 (by omega)
      replace hS2 := hS2.framO F4 (by omega)
      replace hR := hR.framO F4 (by omega)
      have hW := (F4)
      refine wl_nil (x_then (hK9 _ _ ?_))
      clear hK9 K9
      refine forget [(0, _)] ⟨rfl, trivial⟩ (fun e => ?_)
      refine c_seq (fun K10 hK10 => ?_)
      refine c_reg ?_ -- region 8 table.go:69
      refine wl (ro_move rfl) ?_
      refine wl (ro_nilCheck rfl) ?_
      refine wl (ro_fieldAddr (k := 2) rfl fo_75_2) ?_
      refine wl (ro_loadB rfl sc_3 (by assumption) rfl) ?_
      refine wl (ro_arith (r := (cnt : Int)) rfl rfl (congrArg some (by show (cnt : Int) + 1 - 1 = _; omega)) (Go.IntWalk.i64_in _ (by omega))) ?_
      refine wl (ro_assign rfl) ?_
      refine wl (ro_assign rfl) ?_
      refine wl_nil (x_then (hK10 _ _ ?_))
      clear hK10 K10
      refine c_ret ?_
      refine bp_ret Tryz.results86 rfl ?_
      rw [if_neg (by omega)]
      have hnx : ∀ (o2 : Nat → Nat) b, o2 xb = 50 → o2 b ≠ 50 → ¬ one xb b := fun o2 b h1 h e => h (by rw [show b = xb from e]; exact h1)
      let ow' : Nat → Nat := fun b => if b = r1 then 100 + 8 * cnt + 2 else if b = r2 then 100 + 8 * cnt + 3 else if b = r3 then 100 + 8 * cnt + 4 else nw ow w.heap.size 51 b
      have ho1 : ow' r1 = 100 + 8 * cnt + 2 := if_pos rfl
      have ho2 : ow' r2 = 100 + 8 * cnt + 3 := by show (if r2 = r1 then _ else _) = _; rw [if_neg (by omega), if_pos rfl]
      have ho3 : ow' r3 = 100 + 8 * cnt + 4 := by show (if r3 = r1 then _ else _) = _; rw [if_neg (by omega), if_neg (by omega), if_pos rfl]
      have hoo : ∀ b, b < w.heap.size → ow' b = ow b := fun b hb => by show (if b = r1 then _ else _) = _; rw [if_neg (by omega), if_neg (by omega), if_neg (by omega), nw_old hb]
      have hoxb : ow' xb = 50 := by rw [hoo xb hXl]; exact hL.xt
      have hE : Xt w ow ow' := hoo
      have hVV : OwT u5 ow' 51 (.slice a' (L.length + 1) cap') 251 6 (L.length + 1) (rws tmc L ++ tmc ⟨.slice none 0 0, .slice none 0 0, r1, r2, r3, rt0⟩) := by
        refine ⟨hon, fun b hb => ?_⟩
        obtain ⟨g, c, l, e1, e2, _⟩ := hon.pos (by omega)
        rw [e1] at hb
        cases hb
        rcases hnb g (by rw [e1]; rfl) with q | q
        · exact (hoo g (hV.o.lt q)).trans (hV.t g q)
        · show (if g = r1 then _ else _) = _
          rw [if_neg (fun h => hb4r g (.inl h.symm) l e2), if_neg (fun h => hb4r g (.inr (.inl h.symm)) l e2), if_neg (fun h => hb4r g (.inr (.inr h.symm)) l e2)]
          have q : w2.heap.size ≤ g := q
          exact nw_new (Nat.le_trans hsz q)
      have hW2 : Fram (one xb) u5 _ := hW1.trans hW
      refine ⟨rfl, ow', hE, ⟨L ++ [⟨.slice none 0 0, .slice none 0 0, r1, r2, r3, rt0⟩], cnt + 1, ⟨⟨_, hX, ?_⟩, hoxb, by rw [List.length_append]; simp; omega, by rw [List.length_append]; simp; omega, fun h t hh => ?_, fun h t hh => ?_, fun h t hc hh => ?_⟩, ?_⟩, hF⟩
      · rw [rws_app, rws_one, List.length_append]
        exact hVV.far hW2 (fun b hb _ => hnx ow' b hoxb (by omega)) (Xt.refl _ _)
      · rw [List.getElem?_append] at hh
        split at hh
        · rename_i hlt
          exact ((hL.tv h t hh).far hF1 (fun b q1 q2 q3 q4 => by have := hV.t _ q4; omega) hE).far hW2 (fun b q1 q2 q3 => hnx ow' b hoxb (by omega)) (Xt.refl _ _)
        · have : h - L.length = 0 := by
            rcases Nat.lt_or_ge (h - L.length) 1 with q | q
            · omega
            · rw [List.getElem?_eq_none (by simpa using q)] at hh; cases hh
          rw [this] at hh
          simp at hh
          have hh2 : h = cnt := by omega
          subst hh2 hh
          exact ⟨OwT.nil _ _ _ _ _, OwT.nil _ _ _ _ _, hN, hS2, hR, ho1, ho2, ho3⟩
      · rw [List.getElem?_append] at hh
        split at hh
        · exact hL.ti h t hh
        · have : t.R = rt0 := by
            rcases Nat.lt_or_ge (h - L.length) 1 with q | q
            · rw [show h - L.length = 0 by omega] at hh; simp at hh; subst hh; rfl
            · rw [List.getElem?_eq_none (by simpa using q)] at hh; cases hh
          rw [this]; exact ti0
      · have := (List.getElem?_eq_some_iff.1 hh).1
        rw [List.length_append] at this
        simp at this
        omega
      · rw [absT_succ (m := ⟨.slice none 0 0, .slice none 0 0, r1, r2, r3, rt0⟩) (by rw [List.getElem?_append_right (by omega)]; simp [hcL])]
        unfold absT
        rw [List.take_append_of_le_length (by omega)]
        rfl
    · try simp only [decide_eq_true_eq, decide_eq_false_iff_not, Bool.not_eq_true', Bool.not_eq_false', Bool.not_eq_eq_eq_not, Bool.not_true, Bool.not_false, beq_iff_eq, bne_iff_ne, ne_eq, beq_eq_false_iff_ne, bne_eq_false_iff_eq, gt_iff_lt, ge_iff_le, Int.not_lt, Int.not_le] at hc20
      refine c_skip (x_then (hK5 _ _ ?_))
      clear hK5 K5
      refine forget [(0, _)] ⟨rfl, trivial⟩ (fun e => ?_)
      refine c_seq (fun K11 hK11 => ?_)
      refine c_reg ?_ -- region 7 table.go:68
      refine wl (ro_move rfl) ?_
      refine wl (ro_nilCheck rfl) ?_
      refine wl (ro_fieldAddr (k := 2) rfl fo_75_2) ?_
      refine wl (ro_loadB rfl sc_3 (by assumption) rfl) ?_
      refine wl (ro_arith rfl rfl rfl (Go.IntWalk.i64_in _ (by omega))) ?_
      refine wl (ro_nilCheck rfl) ?_
      refine wl (ro_fieldAddr (k := 2) rfl fo_75_2) ?_
      refine wl_put rfl rfl rfl sz_3 hX ((by simp)) (rfl) (fun w5 hX F5 => ?_)
      replace hF := hF.thenDrew.thenO F5 (by first | exact .inr (by omega) | exact .inl rfl | exact .inl (by assumption) | assumption)
      have hW := (F5)
      refine wl_nil (x_then (hK11 _ _ ?_))
      clear hK11 K11
      refine forget [(0, _)] ⟨rfl, trivial⟩ (fun e => ?_)
      refine c_seq (fun K12 hK12 => ?_)
      refine c_reg ?_ -- region 8 table.go:69
      refine wl (ro_move rfl) ?_
      refine wl (ro_nilCheck rfl) ?_
      refine wl (ro_fieldAddr (k := 2) rfl fo_75_2) ?_
      refine wl (ro_loadB rfl sc_3 (by assumption) rfl) ?_
      refine wl (ro_arith (r := (cnt : Int)) rfl rfl (congrArg some (by show (cnt : Int) + 1 - 1 = _; omega)) (Go.IntWalk.i64_in _ (by omega))) ?_
      refine wl (ro_assign rfl) ?_
      refine wl (ro_assign rfl) ?_
      refine wl_nil (x_then (hK12 _ _ ?_))
      clear hK12 K12
      refine c_ret ?_
      refine bp_ret Tryz.results86 rfl ?_
      rw [if_neg (by omega)]
      obtain ⟨m, hm⟩ : ∃ m, L[cnt]? = some m := ⟨_, List.getElem?_eq_getElem (by omega)⟩
      have hmr := hL.rest cnt m (Nat.le_refl _) hm
      have hnx : ∀ b, ow b ≠ 50 → ¬ one xb b := fun b h e => h (by rw [show b = xb from e]; exact hL.xt)
      have hW' : Fram (one xb) w _ := (Fram.drew _ w _).trans hW
      refine ⟨rfl, ow, Xt.refl _ _, ⟨L, cnt + 1, ⟨⟨_, hX, hV.far hW' (fun b hb _ => hnx b (by omega)) (Xt.refl _ _)⟩, hL.xt, by omega, hl12, fun h t hh => (hL.tv h t hh).far hW' (fun b q1 q2 _ => hnx b (by omega)) (Xt.refl _ _), hL.ti, fun h t hc hh => hL.rest h t (by omega) hh⟩, ?_⟩, hF⟩
      rw [absT_succ hm, hmr]; rfl

end Go.Proofs.Qxb6500568aGreatDoor
