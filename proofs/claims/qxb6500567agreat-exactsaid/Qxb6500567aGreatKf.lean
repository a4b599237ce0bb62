import Derived.Test.Qxb6500567aGreatKe
import Derived.Test.Qxb6500567aGreatFg
/- The lock-step machine: New. -/
namespace Go.Proofs.Qxb6500567aGreat
set_option linter.unusedVariables false
set_option linter.unusedSimpArgs false

section
variable {P : Program} {n : Nat} {e : Nat → Option Value} {w w1 : World} {ops : Array Oper} {ds : List Deferred} {Q : Exit → Act → World → Prop} {S : World → Prop} {last i d : Nat} {r : List (Nat × Bool)} {ty : TypeId} {ps : String} {af : Array Edge}
theorem ql_make {t et k len cap : Nat} {x y : Operand} {q q' : IntKind} {z : List Value} (hi : ops[i]? = some ⟨some d, .makeSlice t x y, ty, ps, af, none⟩) (hx : evO n e x = some (.int q (len : Int))) (hy : evO n e y = some (.int q' (cap : Int))) (ht : selB P t et k = true) (hz : zeroB P et z) (hz0 : z ≠ []) (hlc : len ≤ cap) (hc : cap ≤ 1000000) (hk : Nat.ble k 16 = true) (hby : (P.info? et).any (fun i => Nat.ble i.bytes 1000) = true)
    (hS : ∀ w1, Fram none' w w1 → S w1) (K : ∀ b w1, w.heap.size ≤ b → FB w1.heap b (cap * k) (zc z) et → Fram none' w w1 → WQ P ops Q S last r (Fr n (upd e d (.slice (some ⟨b, 0, none⟩) len cap)) ds) w1) : WQ P ops Q S last ((i, true) :: r) (Fr n e ds) w := by
  refine ql_eo hi (eo_make hx hy ht hz hlc hc hk hby) (hS _ (Fram.alloc none' w _)) ?_
  rw [made_cel hz0]
  exact K w.heap.size _ (Nat.le_refl _) (Blk.new w _ et) (Fram.alloc none' w _)
end

/-- The machine's cells at first. -/
def pz : Nat → Value := fun j => if j = 129 ∨ j = 259 ∨ j = 260 ∨ j = 262 ∨ j = 263 ∨ j = 264 then .slice none 0 0 else icv 0

set_option maxHeartbeats 4000000 in
theorem New16 {w : World} : Ret Tryz.prog 16 [] w (fun v w' => ∃ P : PK, v = ptr P.pb ∧ w.heap.size ≤ P.pb ∧ PKo P ∧ PKV w' P ∧ Fram none' w w') := by
  have hF : Fram none' w w := Fram.refl _ _
  refine ret_of Tryz.func16 rfl Tryz.ntmps16 rfl ?_
  refine c_seq (fun K1 hK1 => ?_)
  refine c_reg ?_ -- region 0 machine.go:41
  refine wl (ro_assign rfl) ?_
  refine wl_nil (x_then (hK1 _ _ ?_))
  clear hK1 K1
  refine forget [] trivial (fun e => ?_)
  refine c_seq (fun K2 hK2 => ?_)
  refine c_reg ?_ -- region 1 machine.go:42
  refine wl (ro_build rfl bld_108) ?_
  refine wl_box rfl rfl (fun pb w1 hbpb hB F1 => ?_)
  have hbspb := Nat.le_trans hF.size hbpb
  replace hF := hF.thenDrew.thenN F1
  obtain ⟨L, hL, hl⟩ : ∃ L, Blk w1.heap pb L 108 ∧ L = cel 266 pz := ⟨_, hB, by kernel_rfl⟩
  clear hB
  subst hl
  have hB := hL
  clear hL
  refine wl (ro_assign rfl) ?_
  refine wl_nil (x_then (hK2 _ _ ?_))
  clear hK2 K2
  refine forget [(1, _)] ⟨rfl, trivial⟩ (fun e => ?_)
  refine c_seq (fun K3 hK3 => ?_)
  refine c_piL 6 [(0, false), (2, false), (3, false), (1, true), (4, false), (5, false)] (fun _ => True) mixed (by kernel_rfl) rfl (by kernel_rfl) (po_then (po_bp)) (trivial) ?_ -- region 2 machine.go:43
  refine ql_ro rfl (fun w hS => ro_move rfl) ?_
  refine ql_ro rfl (fun w hS => ro_nilCheck rfl) ?_
  refine ql_ro rfl (fun w hS => ro_fieldAddr (k := 0) rfl fo_108_0) ?_
  refine ql_make (len := 512) (cap := 512) rfl rfl rfl se_97 ze_3 (by simp) (by omega) (by omega) rfl bb_3 (fun _ _ ↦ trivial) (fun c0b w2 hbc0b hC F2 ↦ ?_)
  have hn1 : pb < c0b := Nat.lt_of_lt_of_le hB.lt hbc0b
  replace hF := hF.transG F2 (by intro k hk h; simp only [one, two, none'] at h ⊢ <;> omega)
  replace hB := F2.blkF hB (by intro h; simp only [one, two, none'] at h <;> omega)
  refine ql_ro rfl (fun w hS => ro_indexAddrA (et := 104) (k := 130) rfl rfl ar_105 ((show (0 : Int) = ((0 : Nat) : Int) from rfl)) ((by omega : 0 < 2))) ?_
  refine ql_ro rfl (fun w hS => ro_fieldAddr (k := 129) rfl fo_104_3) ?_
  refine ql_put rfl rfl rfl rfl sz_97 hB ((cel_lt (by omega))) ((cel_put 129 (by omega))) (fun w2 hB F2 => ?_)
  replace hF := hF.thenDrew.thenO F2 (by first | exact .inr (by omega) | exact .inl rfl | exact .inl (by assumption))
  replace hC := F2.blkO hC (by omega)
  refine x_then (hK3 _ _ ?_)
  clear hK3 K3
  refine forget [(1, _)] ⟨rfl, trivial⟩ (fun e => ?_)
  refine c_seq (fun K4 hK4 => ?_)
  refine c_piL 6 [(0, false), (2, false), (3, false), (1, true), (4, false), (5, false)] (fun _ => True) mixed (by kernel_rfl) rfl (by kernel_rfl) (po_then (po_bp)) (trivial) ?_ -- region 3 machine.go:44
  refine ql_ro rfl (fun w hS => ro_move rfl) ?_
  refine ql_ro rfl (fun w hS => ro_nilCheck rfl) ?_
  refine ql_ro rfl (fun w hS => ro_fieldAddr (k := 0) rfl fo_108_0) ?_
  refine ql_make (len := 512) (cap := 512) rfl rfl rfl se_97 ze_3 (by simp) (by omega) (by omega) rfl bb_3 (fun _ _ ↦ trivial) (fun c1b w3 hbc1b hO F3 ↦ ?_)
  have hn2 : c0b < c1b := Nat.lt_of_lt_of_le hC.lt hbc1b
  replace hF := hF.transG F3 (by intro k hk h; simp only [one, two, none'] at h ⊢ <;> omega)
  replace hB := F3.blkF hB (by intro h; simp only [one, two, none'] at h <;> omega)
  replace hC := F3.blkF hC (by intro h; simp only [one, two, none'] at h <;> omega)
  refine ql_ro rfl (fun w hS => ro_indexAddrA (et := 104) (k := 130) rfl rfl ar_105 ((show (1 : Int) = ((1 : Nat) : Int) from rfl)) ((by omega : 1 < 2))) ?_
  refine ql_ro rfl (fun w hS => ro_fieldAddr (k := 129) rfl fo_104_3) ?_
  refine ql_put rfl rfl rfl rfl sz_97 hB ((cel_lt (by omega))) ((cel_put 259 (by omega))) (fun w3 hB F3 => ?_)
  replace hF := hF.thenDrew.thenO F3 (by first | exact .inr (by omega) | exact .inl rfl | exact .inl (by assumption))
  replace hC := F3.blkO hC (by omega)
  replace hO := F3.blkO hO (by omega)
  refine x_then (hK4 _ _ ?_)
  clear hK4 K4
  refine forget [(1, _)] ⟨rfl, trivial⟩ (fun e => ?_)
  refine c_seq (fun K5 hK5 => ?_)
  refine c_reg ?_ -- region 4 machine.go:45
  refine wl (ro_move rfl) ?_
  refine wl_make (len := 65) (cap := 65) rfl rfl se_106 ze_182 (by simp) (by omega) (by omega) rfl bb_182 (fun st w4 hbst hK F4 => ?_)
  have hbsst := Nat.le_trans hF.size hbst
  have hnepbst : pb < st := Nat.lt_of_lt_of_le hB.lt hbst
  have hnec0bst : c0b < st := Nat.lt_of_lt_of_le hC.lt hbst
  have hnec1bst : c1b < st := Nat.lt_of_lt_of_le hO.lt hbst
  replace hF := hF.thenDrew.thenN F4
  replace hB := F4.blkN hB
  replace hC := F4.blkN hC
  replace hO := F4.blkN hO
  refine wl (ro_nilCheck rfl) ?_
  refine wl (ro_fieldAddr (k := 260) rfl fo_108_1) ?_
  refine wl_put rfl rfl rfl sz_106 hB ((cel_lt (by omega))) ((cel_put 260 (by omega))) (fun w5 hB F5 => ?_)
  replace hF := hF.thenDrew.thenO F5 (by first | exact .inr (by omega) | exact .inl rfl | exact .inl (by assumption))
  replace hC := F5.blkO hC (by omega)
  replace hO := F5.blkO hO (by omega)
  replace hK := F5.blkO hK (by omega)
  refine wl_nil (x_then (hK5 _ _ ?_))
  clear hK5 K5
  refine forget [(1, _)] ⟨rfl, trivial⟩ (fun e => ?_)
  refine c_seq (fun K6 hK6 => ?_)
  refine c_reg ?_ -- region 5 machine.go:46
  refine wl (ro_move rfl) ?_
  refine wl_make (len := 8) (cap := 8) rfl rfl se_97 ze_3 (by simp) (by omega) (by omega) rfl bb_3 (fun rg w6 hbrg hR F6 => ?_)
  have hbsrg := Nat.le_trans hF.size hbrg
  have hnepbrg : pb < rg := Nat.lt_of_lt_of_le hB.lt hbrg
  have hnec0brg : c0b < rg := Nat.lt_of_lt_of_le hC.lt hbrg
  have hnec1brg : c1b < rg := Nat.lt_of_lt_of_le hO.lt hbrg
  have hnestrg : st < rg := Nat.lt_of_lt_of_le hK.lt hbrg
  replace hF := hF.thenDrew.thenN F6
  replace hB := F6.blkN hB
  replace hC := F6.blkN hC
  replace hO := F6.blkN hO
  replace hK := F6.blkN hK
  refine wl (ro_nilCheck rfl) ?_
  refine wl (ro_fieldAddr (k := 262) rfl fo_108_3) ?_
  refine wl_put rfl rfl rfl sz_97 hB ((cel_lt (by omega))) ((cel_put 262 (by omega))) (fun w7 hB F7 => ?_)
  replace hF := hF.thenDrew.thenO F7 (by first | exact .inr (by omega) | exact .inl rfl | exact .inl (by assumption))
  replace hC := F7.blkO hC (by omega)
  replace hO := F7.blkO hO (by omega)
  replace hK := F7.blkO hK (by omega)
  replace hR := F7.blkO hR (by omega)
  refine wl_nil (x_then (hK6 _ _ ?_))
  clear hK6 K6
  refine forget [(1, _)] ⟨rfl, trivial⟩ (fun e => ?_)
  refine c_seq (fun K7 hK7 => ?_)
  refine c_reg ?_ -- region 6 machine.go:47
  refine wl (ro_move rfl) ?_
  refine wl_make (len := 8) (cap := 8) rfl rfl se_97 ze_3 (by simp) (by omega) (by omega) rfl bb_3 (fun bs w8 hbbs hE F8 => ?_)
  have hbsbs := Nat.le_trans hF.size hbbs
  have hnepbbs : pb < bs := Nat.lt_of_lt_of_le hB.lt hbbs
  have hnec0bbs : c0b < bs := Nat.lt_of_lt_of_le hC.lt hbbs
  have hnec1bbs : c1b < bs := Nat.lt_of_lt_of_le hO.lt hbbs
  have hnestbs : st < bs := Nat.lt_of_lt_of_le hK.lt hbbs
  have hnergbs : rg < bs := Nat.lt_of_lt_of_le hR.lt hbbs
  replace hF := hF.thenDrew.thenN F8
  replace hB := F8.blkN hB
  replace hC := F8.blkN hC
  replace hO := F8.blkN hO
  replace hK := F8.blkN hK
  replace hR := F8.blkN hR
  refine wl (ro_nilCheck rfl) ?_
  refine wl (ro_fieldAddr (k := 263) rfl fo_108_4) ?_
  refine wl_put rfl rfl rfl sz_97 hB ((cel_lt (by omega))) ((cel_put 263 (by omega))) (fun w9 hB F9 => ?_)
  replace hF := hF.thenDrew.thenO F9 (by first | exact .inr (by omega) | exact .inl rfl | exact .inl (by assumption))
  replace hC := F9.blkO hC (by omega)
  replace hO := F9.blkO hO (by omega)
  replace hK := F9.blkO hK (by omega)
  replace hR := F9.blkO hR (by omega)
  replace hE := F9.blkO hE (by omega)
  refine wl_nil (x_then (hK7 _ _ ?_))
  clear hK7 K7
  refine forget [(1, _)] ⟨rfl, trivial⟩ (fun e => ?_)
  refine c_seq (fun K8 hK8 => ?_)
  refine c_reg ?_ -- region 7 machine.go:48
  refine wl (ro_move rfl) ?_
  refine wl_make (len := 8) (cap := 8) rfl rfl se_97 ze_3 (by simp) (by omega) (by omega) rfl bb_3 (fun nn w10 hbnn hN F10 => ?_)
  have hbsnn := Nat.le_trans hF.size hbnn
  have hnepbnn : pb < nn := Nat.lt_of_lt_of_le hB.lt hbnn
  have hnec0bnn : c0b < nn := Nat.lt_of_lt_of_le hC.lt hbnn
  have hnec1bnn : c1b < nn := Nat.lt_of_lt_of_le hO.lt hbnn
  have hnestnn : st < nn := Nat.lt_of_lt_of_le hK.lt hbnn
  have hnergnn : rg < nn := Nat.lt_of_lt_of_le hR.lt hbnn
  have hnebsnn : bs < nn := Nat.lt_of_lt_of_le hE.lt hbnn
  replace hF := hF.thenDrew.thenN F10
  replace hB := F10.blkN hB
  replace hC := F10.blkN hC
  replace hO := F10.blkN hO
  replace hK := F10.blkN hK
  replace hR := F10.blkN hR
  replace hE := F10.blkN hE
  refine wl (ro_nilCheck rfl) ?_
  refine wl (ro_fieldAddr (k := 264) rfl fo_108_5) ?_
  refine wl_put rfl rfl rfl sz_97 hB ((cel_lt (by omega))) ((cel_put 264 (by omega))) (fun w11 hB F11 => ?_)
  replace hF := hF.thenDrew.thenO F11 (by first | exact .inr (by omega) | exact .inl rfl | exact .inl (by assumption))
  replace hC := F11.blkO hC (by omega)
  replace hO := F11.blkO hO (by omega)
  replace hK := F11.blkO hK (by omega)
  replace hR := F11.blkO hR (by omega)
  replace hE := F11.blkO hE (by omega)
  replace hN := F11.blkO hN (by omega)
  refine wl_nil (x_then (hK8 _ _ ?_))
  clear hK8 K8
  refine c_seq (fun K9 hK9 => ?_)
  refine c_seq (fun K10 hK10 => ?_)
  refine c_reg ?_ -- region 8 machine.go:49
  refine wl (ro_assign rfl) ?_
  refine wl_nil (x_then (hK10 _ _ ?_))
  clear hK10 K10
  refine c_block ?_
  -- loop@r9: live slots [1, 2]
  generalize hf0 : pt (pt (pt (pt (pt (pt pz 129 (sl c0b 512)) 259 (sl c1b 512)) 260 (sl st 65)) 262 (sl rg 8)) 263 (sl bs 8)) 264 (sl nn 8) = f0 at hB
  refine c_loopG (fun m a' w' => ∃ (k : Nat) (g : Nat → Value), m = 8 - k ∧ k ≤ 8 ∧ (∀ j, j < k → g j = icv (-1)) ∧ FB w'.heap pb 266 f0 108 ∧ FB w'.heap c0b 512 (zc [icv 0]) 3 ∧ FB w'.heap c1b 512 (zc [icv 0]) 3 ∧ (∃ sf, FB w'.heap st 195 sf 182) ∧ FB w'.heap rg 8 (zc [icv 0]) 3 ∧ FB w'.heap bs 8 (zc [icv 0]) 3 ∧ FB w'.heap nn 8 g 3 ∧ Fram none' w w' ∧ ∃ e, a' = Fr 44 (upds e [(1, ptr pb), (2, i64c k)]) []) 8 ⟨0, _, rfl, by omega, (fun j h ↦ by omega), hB, hC, hO, ⟨_, hK⟩, hR, hE, hN, hF, kp _ ⟨rfl, rfl, trivial⟩⟩ ?_
  clear hB hC hO hK hR hE hN hF
  rintro m a' w1 ⟨k, g, rfl, hk, hg, hB, hC, hO, ⟨sf, hK⟩, hR, hE, hN, hF, e, rfl⟩
  refine c_seq (fun K11 hK11 => ?_)
  refine c_seq (fun K12 hK12 => ?_)
  refine c_reg ?_ -- region 9 machine.go:49
  refine wl (ro_move rfl) ?_
  refine wl (ro_cmp (r := decide (k < 8)) rfl rfl (congrArg some (decide_eq_decide.2 (by omega)))) ?_
  refine wl_nil (x_then (hK12 _ _ ?_))
  clear hK12 K12
  refine wc_cond rfl (fun hc34 => ?_) (fun hc34 => ?_)
  · try simp only [decide_eq_true_eq, decide_eq_false_iff_not, Bool.not_eq_true', Bool.not_eq_false', Bool.not_eq_eq_eq_not, Bool.not_true, Bool.not_false, beq_iff_eq, bne_iff_ne, ne_eq, beq_eq_false_iff_ne, bne_eq_false_iff_eq, gt_iff_lt, ge_iff_le, Int.not_lt, Int.not_le] at hc34
    refine c_skip (x_then (hK11 _ _ ?_))
    clear hK11 K11
    refine forget [(1, _), (2, _)] ⟨rfl, rfl, trivial⟩ (fun e => ?_)
    refine c_seq (fun K13 hK13 => ?_)
    refine c_block ?_
    refine c_reg ?_ -- region 11 machine.go:50
    refine wl (ro_move rfl) ?_
    refine wl (ro_nilCheck rfl) ?_
    refine wl (ro_fieldAddr (k := 264) rfl fo_108_5) ?_
    refine wl (ro_loadB rfl sc_97 (hB) (cel_at (k := 264) (by omega) (by omega) (by rw [← hf0, pt_same]))) ?_
    refine wl (ro_move rfl) ?_
    refine wl (ro_indexAddr (et := 3) (k := 1) rfl rfl se_97 (rfl) ((by omega : k < 8))) ?_
    refine wl_put rfl rfl rfl sz_3 hN ((cel_lt (by omega))) ((cel_put k (by omega))) (fun w12 hN F12 => ?_)
    replace hF := hF.thenDrew.thenO F12 (by first | exact .inr (by omega) | exact .inl rfl | exact .inl (by assumption))
    replace hB := F12.blkO hB (by omega)
    replace hC := F12.blkO hC (by omega)
    replace hO := F12.blkO hO (by omega)
    replace hK := F12.blkO hK (by omega)
    replace hR := F12.blkO hR (by omega)
    replace hE := F12.blkO hE (by omega)
    refine wl_nil (x_blk (x_then (hK13 _ _ ?_)))
    clear hK13 K13
    refine c_reg ?_ -- region 10 machine.go:49
    refine wl (ro_move rfl) ?_
    refine wl (ro_arith rfl rfl rfl (Go.IntWalk.i64_in _ (by omega))) ?_
    refine wl (ro_assign rfl) ?_
    refine wl_nil (x_then ?_)
    refine ⟨8 - (k + 1), by omega, k + 1, _, rfl, by omega, ?_, hB, hC, hO, ⟨sf, hK⟩, hR, hE, hN, hF, kp _ ⟨rfl, rfl, trivial⟩⟩
    intro j hj
    by_cases h : j = k
    · subst h; rw [pt_same]
    · rw [pt_ne h]; exact hg j (by omega)
  · try simp only [decide_eq_true_eq, decide_eq_false_iff_not, Bool.not_eq_true', Bool.not_eq_false', Bool.not_eq_eq_eq_not, Bool.not_true, Bool.not_false, beq_iff_eq, bne_iff_ne, ne_eq, beq_eq_false_iff_ne, bne_eq_false_iff_eq, gt_iff_lt, ge_iff_le, Int.not_lt, Int.not_le] at hc34
    refine c_exit (x_thenX (x_thenX (x_blkX (x_then (hK9 _ _ ?_)))))
    clear hK11 K11 hK9 K9
    refine forget [(1, _)] ⟨rfl, trivial⟩ (fun e => ?_)
    refine c_seq (fun K14 hK14 => ?_)
    refine c_reg ?_ -- region 12 machine.go:52
    refine wl (ro_move rfl) ?_
    refine wl (ro_assign rfl) ?_
    refine wl_nil (x_then (hK14 _ _ ?_))
    clear hK14 K14
    refine c_ret ?_
    refine bp_ret Tryz.results16 rfl ?_
    have eN : cel 8 g = cel 8 (fun _ => icv (-1)) := cel_congr (fun j hj => hg j (by omega))
    have eZ : cel 8 (zc [icv 0]) = cel 8 (rgv (List.replicate 8 0)) := by kernel_rfl
    have hpz : ∀ j, j < 266 → j ≠ 129 → j ≠ 259 → j ≠ 260 → j ≠ 262 → j ≠ 263 → j ≠ 264 → f0 j = icv 0 := by
      intro j hj a1 a2 a3 a4 a5 a6
      rw [← hf0, pt_ne a6, pt_ne a5, pt_ne a4, pt_ne a3, pt_ne a2, pt_ne a1]
      unfold pz
      rw [if_neg (by omega)]
    refine ⟨⟨pb, fun i => if i = 0 then c0b else c1b, st, rg, bs, nn⟩, rfl, by show w.heap.size ≤ pb; omega, ⟨by show pb < c0b; omega, by show c0b < c1b; omega, by show c1b < st; omega, by show st < rg; omega, by show rg < bs; omega, by show bs < nn; omega⟩, ⟨f0, _, _, sf, List.replicate 8 0, List.replicate 8 0, 0, hB, hC, hO, hK, by show Blk _ _ _ _; rw [← eZ]; exact hR, by show Blk _ _ _ _; rw [← eZ]; exact hE, by show Blk _ _ _ _; rw [← eN]; exact hN, ?_, by simp, by simp⟩, hF⟩
    refine ⟨?_, ?_, hpz 261 (by omega) (by omega) (by omega) (by omega) (by omega) (by omega) (by omega), ?_, ?_, ?_, hpz 265 (by omega) (by omega) (by omega) (by omega) (by omega) (by omega) (by omega), fun i q hi hq => ⟨0, hpz _ (by omega) (by omega) (by omega) (by omega) (by omega) (by omega) (by omega)⟩⟩
    · intro i hi
      rw [← hf0]
      rcases (show i = 0 ∨ i = 1 by omega) with rfl | rfl
      · rw [pt_ne (by omega), pt_ne (by omega), pt_ne (by omega), pt_ne (by omega), pt_ne (by omega)]; exact pt_same
      · rw [pt_ne (by omega), pt_ne (by omega), pt_ne (by omega), pt_ne (by omega)]; exact pt_same
    · rw [← hf0, pt_ne (by omega), pt_ne (by omega), pt_ne (by omega)]; exact pt_same
    · rw [← hf0, pt_ne (by omega), pt_ne (by omega)]; exact pt_same
    · rw [← hf0, pt_ne (by omega)]; exact pt_same
    · rw [← hf0]; exact pt_same

end Go.Proofs.Qxb6500567aGreat
