import Derived.Test.Qxb6500569aGreatXa
/- The real machine: goals laid as frames; shut; pop. -/
namespace Go.Proofs.Qxb6500569aGreat
set_option linter.unusedVariables false
set_option linter.unusedSimpArgs false

theorem Own.cut {H : Array Obj} {a : Option Addr} {n c e k m : Nat} {xs : List Value} (h : Own H (.slice a n c) e k n xs) (hm : m ≤ n) : Own H (.slice a m c) e k m (xs.take (m * k)) := by
  have hmk : m * k ≤ n * k := Nat.mul_le_mul_right k hm
  refine ⟨by rw [List.length_take, h.1]; omega, ?_⟩
  rcases h.2 with ⟨h1, h2⟩ | ⟨g, cap, l, h1, h2, h3, h4, h5, h6⟩
  · injection h1 with e1 e2 e3
    subst e1 e3 h2
    exact .inl ⟨by rw [show m = 0 by omega], by omega⟩
  · injection h1 with e1 e2 e3
    subst e1 e3
    refine .inr ⟨g, c, l, rfl, h2, by omega, h4, h5, ?_⟩
    rw [← h6, List.take_take, Nat.min_eq_left hmk]

theorem own_same {a : Option Addr} {n m c : Nat} : (Value.slice a n c).ownBlock = (Value.slice a m c).ownBlock := by
  cases a <;> rfl

def kidsK (hp : List Nd) (root k cut : Nat) : List Gf := ((List.range' k (4 - k)).filterMap (fun j => argOf hp root j)).map (fun a => (a, cut))

theorem kidsK_eq (hp : List Nd) (root frm cut : Nat) : (kidsS hp root frm 0 cut).map gf = kidsK hp root frm cut := by
  unfold kidsS kidsK
  simp [gf, Function.comp_def]

theorem kidsK_step (hp : List Nd) (root k cut : Nat) (hk : k < 4) : kidsK hp root k cut = (match argOf hp root k with | some a => [(a, cut)] | none => []) ++ kidsK hp root (k + 1) cut := by
  unfold kidsK
  rw [show 4 - k = (4 - (k + 1)) + 1 by omega, List.range'_succ]
  simp only [List.filterMap_cons]
  cases argOf hp root k with
  | none => simp
  | some a => simp

/-- Every frame stands on a node, and points back. -/
def Fit (frs : List Frm) (n : Nat) : Prop := ∀ (i : Nat) (f : Frm), frs[i]? = some f → f.1 < n ∧ -1 ≤ f.2.1 ∧ f.2.1 < (i : Int)

theorem Fit.mono {frs : List Frm} {n m : Nat} (h : Fit frs n) (hm : n ≤ m) : Fit frs m := fun i f hf => ⟨Nat.lt_of_lt_of_le (h i f hf).1 hm, (h i f hf).2⟩

theorem Fit.nil (n : Nat) : Fit [] n := fun i f h => by simp at h

theorem Fit.take {frs : List Frm} {n : Nat} (h : Fit frs n) (m : Nat) : Fit (frs.take m) n := fun i f hf => by
  rw [List.getElem?_take] at hf
  split at hf
  · exact h i f hf
  · cases hf

theorem Fit.push {frs : List Frm} {n : Nat} (h : Fit frs n) {f : Frm} (h1 : f.1 < n) (h2 : -1 ≤ f.2.1) (h3 : f.2.1 < (frs.length : Int)) : Fit (frs ++ [f]) n := by
  intro i g hg
  by_cases hi : i < frs.length
  · rw [List.getElem?_append_left hi] at hg; exact h i g hg
  · have hl := (List.getElem?_eq_some_iff.1 hg).1
    simp at hl
    have : i = frs.length := by omega
    subst this
    simp at hg
    subst hg
    exact ⟨h1, h2, h3⟩

theorem enter32 {w : World} {sb pb : Nat} {L : HL} {VF VG VP : Value} {s : RSt} {Fp : Nat → Prop} (M : SRm w.heap sb L pb VF VG VP s Fp) {root frm cut : Nat} {next : Int} {gs : List Gf} (wf : WFH s.hp) (hr : root < s.hp.length) (hf : frm ≤ 4) (hc : Chain s.frs next gs) (hl : s.frs.length ≤ 1000) :
    Ret Tryz.prog 32 [ptr sb, i64c root, i64c frm, .int .i64 next, i64c cut] w (fun _ w' => ∃ VF' x c', SRm w'.heap sb L pb VF' VG VP { s with cont := c', frs := s.frs ++ x } Fp ∧ Chain (s.frs ++ x) c' (kidsK s.hp root frm cut ++ gs) ∧ x.length ≤ 4 - frm ∧ (∀ b, VF'.ownBlock = some b → VF.ownBlock = some b ∨ w.heap.size ≤ b) ∧ Fram (fun b => b = sb ∨ VF.ownBlock = some b) w w' ∧ (Fit s.frs s.hp.length → Fit (s.frs ++ x) s.hp.length)) := by
  have hB := M.blk
  refine ret_of Tryz.func32 rfl Tryz.ntmps32 rfl ?_
  refine c_seq (fun K1 hK1 => ?_)
  refine c_reg ?_ -- region 0 run.go:9
  refine wl (ro_move rfl) ?_
  refine wl (ro_move rfl) ?_
  refine wl (ro_nilCheck rfl) ?_
  refine wl (ro_fieldAddr (k := 8) rfl fo_82_8) ?_
  refine wls (so_storeB rfl rfl rfl sz_3 (hB) (by simp)) ?_
  obtain ⟨M1, F1⟩ := M.up { s with cont := next } rfl rfl rfl rfl rfl rfl
  refine gen2 (A := fun w1 => SRm w1.heap sb L pb VF VG VP { s with cont := next } Fp) (B := fun w1 => Fram (fun b => b = sb) w w1) (C := fun w1 => WL _ _ _ _ _ w1) M1 F1 ?_
  clear M1 F1
  intro w1 M1 F1
  refine wl_nil (x_then (hK1 _ _ ?_))
  clear hK1 K1
  refine forget [(0, _), (1, _), (2, _), (4, _)] ⟨rfl, rfl, rfl, rfl, trivial⟩ (fun e => ?_)
  refine c_seq (fun K2 hK2 => ?_)
  refine c_reg ?_ -- region 1 run.go:10
  refine wl (ro_assign rfl) ?_
  refine wl_nil (x_then (hK2 _ _ ?_))
  clear hK2 K2
  refine c_block ?_
  -- loop@r2: live slots [0, 1, 2, 4, 10]
  refine c_loopG (fun m a' w' => ∃ (k : Nat) (VF' : Value) (x : List Frm) (c' : Int), m = k - frm ∧ frm ≤ k ∧ k ≤ 4 ∧ SRm w'.heap sb L pb VF' VG VP { s with cont := c', frs := s.frs ++ x } Fp ∧ Chain (s.frs ++ x) c' (kidsK s.hp root k cut ++ gs) ∧ x.length ≤ 4 - k ∧ (∀ b, VF'.ownBlock = some b → VF.ownBlock = some b ∨ w.heap.size ≤ b) ∧ Fram (fun b => b = sb ∨ VF.ownBlock = some b) w w' ∧ (Fit s.frs s.hp.length → Fit (s.frs ++ x) s.hp.length) ∧ ∃ e, a' = Fr 49 (upds e [(0, ptr sb), (1, i64c root), (2, i64c frm), (4, i64c cut), (10, .int .i64 ((k : Int) - 1))]) []) (4 - frm) ⟨4, VF, [], next, rfl, by omega, by omega, by rw [List.append_nil]; exact M1, by simpa [kidsK] using hc, by simp, fun b h => .inl h, F1.mono (fun _ _ h => .inl h), (fun h => by rw [List.append_nil]; exact h), kp _ ⟨rfl, rfl, rfl, rfl, rfl, trivial⟩⟩ ?_
  clear M1 F1
  rintro m a' w2 ⟨k, VF2, x, c', rfl, hk1, hk2, M2, hch, hxl, hn2, F2, hft, e, rfl⟩
  have hB2 := M2.blk
  have hsz2 := F2.size
  refine c_seq (fun K3 hK3 => ?_)
  refine c_seq (fun K4 hK4 => ?_)
  refine c_reg ?_ -- region 2 run.go:10
  refine wl (ro_move rfl) ?_
  refine wl (ro_move rfl) ?_
  refine wl (ro_cmp (r := decide (frm < k)) rfl rfl (congrArg some (by simp; omega))) ?_
  refine wl_nil (x_then (hK4 _ _ ?_))
  clear hK4 K4
  refine wc_cond rfl (fun hc18 => ?_) (fun hc18 => ?_)
  · try simp only [decide_eq_true_eq, decide_eq_false_iff_not, Bool.not_eq_true', Bool.not_eq_false', Bool.not_eq_eq_eq_not, Bool.not_true, Bool.not_false, beq_iff_eq, bne_iff_ne, ne_eq, beq_eq_false_iff_ne, bne_eq_false_iff_eq, gt_iff_lt, ge_iff_le, Int.not_lt, Int.not_le] at hc18
    have hkf : frm < k := by simpa using hc18
    obtain ⟨j, rfl⟩ : ∃ j, k = j + 1 := ⟨k - 1, by omega⟩
    have hj : Value.int .i64 (((j + 1 : Nat) : Int) - 1) = i64c j := by show Value.int _ _ = Value.int _ _; congr 1; omega
    rw [hj]
    have hst := kidsK_step s.hp root j cut (by omega)
    refine c_skip (x_then (hK3 _ _ ?_))
    clear hK3 K3
    refine forget [(0, _), (1, _), (2, _), (4, _), (10, _)] ⟨rfl, rfl, rfl, rfl, rfl, trivial⟩ (fun e => ?_)
    refine c_seq (fun K5 hK5 => ?_)
    refine c_block ?_
    refine c_seq (fun K6 hK6 => ?_)
    refine c_reg ?_ -- region 4 run.go:11
    refine wl (ro_move rfl) ?_
    refine wl (ro_nilCheck rfl) ?_
    refine wl (ro_fieldAddr (k := 0) rfl fo_82_0) ?_
    refine wl (ro_loadB rfl sc_24 (hB2) rfl) ?_
    refine wl (ro_move rfl) ?_
    refine wl (ro_move rfl) ?_
    refine wl_call rfl en_57 (hArg M2.hpr (a := root) hr j (by omega)) ?_
    rintro _ w2 ⟨rfl, rfl⟩
    obtain ⟨oa, hoa⟩ : ∃ oa, oa = argOf s.hp root j := ⟨_, rfl⟩
    simp only
    rw [← hoa] at hst ⊢
    refine wl (ro_assign rfl) ?_
    refine wl_nil (x_then (hK6 _ _ ?_))
    clear hK6 K6
    refine c_seq (fun K7 hK7 => ?_)
    refine c_seq (fun K8 hK8 => ?_)
    refine c_reg ?_ -- region 5 run.go:12
    refine wl (ro_move rfl) ?_
    refine wl (ro_cmp (r := !oa.isSome) rfl rfl (by cases oa with | none => rfl | some q => exact congrArg some (decide_eq_false (by simp [optI])))) ?_
    refine wl_nil (x_then (hK8 _ _ ?_))
    clear hK8 K8
    refine wc_cond rfl (fun hc29 => ?_) (fun hc29 => ?_)
    · try simp only [decide_eq_true_eq, decide_eq_false_iff_not, Bool.not_eq_true', Bool.not_eq_false', Bool.not_eq_eq_eq_not, Bool.not_true, Bool.not_false, beq_iff_eq, bne_iff_ne, ne_eq, beq_eq_false_iff_ne, bne_eq_false_iff_eq, gt_iff_lt, ge_iff_le, Int.not_lt, Int.not_le] at hc29
      obtain rfl : oa = none := by cases oa with | none => rfl | some q => cases hc29
      simp only [List.nil_append] at hst
      refine c_exit (x_thenX (x_blkX (x_then (hK5 _ _ ?_))))
      clear hK7 K7 hK5 K5
      refine c_reg ?_ -- region 3 run.go:10
      refine wl (ro_move rfl) ?_
      refine wl (ro_arith rfl rfl rfl (Go.IntWalk.i64_in _ (by omega))) ?_
      refine wl (ro_assign rfl) ?_
      refine wl_nil (x_then ?_)
      refine ⟨j - frm, by omega, j, VF2, x, c', rfl, by omega, by omega, M2, by rw [hst]; exact hch, by omega, hn2, F2, hft, kp _ ⟨rfl, rfl, rfl, rfl, rfl, trivial⟩⟩
    · try simp only [decide_eq_true_eq, decide_eq_false_iff_not, Bool.not_eq_true', Bool.not_eq_false', Bool.not_eq_eq_eq_not, Bool.not_true, Bool.not_false, beq_iff_eq, bne_iff_ne, ne_eq, beq_eq_false_iff_ne, bne_eq_false_iff_eq, gt_iff_lt, ge_iff_le, Int.not_lt, Int.not_le] at hc29
      obtain ⟨q, rfl⟩ : ∃ q, oa = some q := by cases oa with | none => cases hc29 | some q => exact ⟨q, rfl⟩
      simp only at hst
      refine c_skip (x_then (hK7 _ _ ?_))
      clear hK7 K7
      refine forget [(0, _), (1, _), (2, _), (4, _), (10, _), (11, _)] ⟨rfl, rfl, rfl, rfl, rfl, rfl, trivial⟩ (fun e => ?_)
      refine c_seq (fun K9 hK9 => ?_)
      refine c_pi [(0, false), (1, false), (2, false), (3, false), (4, false), (5, false), (6, false), (7, false), (8, false), (9, false), (10, true)] (fun w' => ∃ l, Blk w'.heap sb l 82 ∧ l[8]? = some (.int .i64 c')) mixed (by kernel_rfl) rfl (by kernel_rfl) (po_then (po_blk (po_then (po_then (po_blk (po_bp)))))) (⟨_, hB2, rfl⟩) ?_ -- region 6 run.go:15
      refine pi_ro rfl (fun w hS => ro_move rfl) ?_
      refine pi_ro rfl (fun w hS => ro_nilCheck rfl) ?_
      refine pi_ro rfl (fun w hS => ro_fieldAddr (k := 9) rfl fo_82_9) ?_
      refine pi_ro rfl (fun w hS => ro_move rfl) ?_
      refine pi_ro rfl (fun w hS => ro_move rfl) ?_
      refine pi_ro rfl (fun w hS => ro_nilCheck rfl) ?_
      refine pi_ro rfl (fun w hS => ro_fieldAddr (k := 8) rfl fo_82_8) ?_
      refine pi_ro rfl (fun w hS => ro_loadB rfl sc_3 (hS.choose_spec.1) (hS.choose_spec.2)) ?_
      refine pi_ro rfl (fun w hS => ro_move rfl) ?_
      refine pi_ro rfl (fun w hS => ro_build rfl bld_117_0_1_2) ?_
      refine pi_call rfl rfl en_58 (Push58 (w := { w2 with drawn := w2.drawn + 1 }) (k := 9) hB2 rfl M2.fro (by decide) (by simp; omega) (i64c q) (.int .i64 c') (i64c cut) (by simp [i64c, Value.oneCell'])) ?_
      rintro _ w3 ⟨VF3, hB3, hO3, hn3, F3⟩
      have F3' : Fram (fun b => b = sb ∨ VF2.ownBlock = some b) w2 w3 := (Fram.drew _ w2 (w2.drawn + 1)).trans F3
      simp only at hB3 hO3 hn3
      have hnf : ∀ b, (b = sb ∨ VF2.ownBlock = some b) → ∀ l t, Blk w2.heap b l t → t = 82 ∨ t = 117 := by
        intro b hb l t hBl
        rcases hb with rfl | hb
        · have := M2.blk.typ _ rfl _ _ hBl; simp at this; exact .inl this
        · have := M2.fro.typ b hb _ _ hBl; simp at this; exact .inr this
      have hT : TypF [82, 117] (fun b => b = sb ∨ VF2.ownBlock = some b) w2.heap := by
        intro b hb l t hBl
        rcases hnf b hb l t hBl with rfl | rfl <;> rfl
      have M3 : SRm w3.heap sb L pb VF3 VG VP { s with cont := c', frs := s.frs ++ x ++ [(q, c', cut)] } Fp := by
        refine ⟨hB3, ?_, M2.cho.framT F3' hT rfl, M2.pro.framT F3' hT rfl, M2.hpr.fram F3' ?_, M2.pr.fram F3' ?_, ?_, ?_, fun b hb => Nat.lt_of_lt_of_le (M2.lp b hb) F3'.size⟩
        · show Own w3.heap VF3 117 3 (s.frs ++ x ++ [(q, c', cut)]).length ((s.frs ++ x ++ [(q, c', cut)]).flatMap frc)
          rw [List.length_append, List.flatMap_append]
          exact hO3
        · intro b hb hx
          rcases hx with hx | hx
          · exact (M2.dl b hb).1 hx
          · exact (M2.dl b hb).2.1 hx
        · intro b hb hx
          rcases hx with hx | hx
          · exact (M2.dp b hb).2.1 hx
          · exact (M2.dp b hb).2.2.1 hx
        · intro b hb
          refine ⟨(M2.dl b hb).1, fun hx => ?_, (M2.dl b hb).2.2⟩
          rcases hn3 b hx with h | h
          · exact (M2.dl b hb).2.1 h
          · have := M2.hpr.lt hb; omega
        · intro b hb
          refine ⟨(M2.dp b hb).1, (M2.dp b hb).2.1, fun hx => ?_, (M2.dp b hb).2.2.2⟩
          rcases hn3 b hx with h | h
          · exact (M2.dp b hb).2.2.1 h
          · have := M2.lp b hb; omega
      have F03 : Fram (fun b => b = sb ∨ VF.ownBlock = some b) w w3 := F2.trans' F3' (fun b hb h => by
        rcases h with h | h
        · exact .inl h
        · rcases hn2 b h with h' | h'
          · exact .inr h'
          · omega)
      have hn03 : ∀ b, VF3.ownBlock = some b → VF.ownBlock = some b ∨ w.heap.size ≤ b := by
        intro b hb
        rcases hn3 b hb with h | h
        · exact hn2 b h
        · exact .inr (by omega)
      have hB3' := M3.blk
      refine ⟨⟨_, hB3', rfl⟩, ?_⟩
      have hO3' := M3.fro
      obtain ⟨a3, c3, rfl⟩ := hO3'.form
      have hlq : Value.int .i64 (((s.frs ++ x ++ [(q, c', cut)]).length : Int) - 1) = i64c (s.frs ++ x).length := by show Value.int _ _ = Value.int _ _; congr 1; simp; omega
      refine pi_nil (x_then (hK9 _ _ ?_))
      clear hK9 K9
      refine c_reg ?_ -- region 7 run.go:16
      refine wl (ro_move rfl) ?_
      refine wl (ro_move rfl) ?_
      refine wl (ro_nilCheck rfl) ?_
      refine wl (ro_fieldAddr (k := 9) rfl fo_82_9) ?_
      refine wl_call rfl en_59 (Len59 hB3' (k := 9) rfl) ?_
      rintro _ w3 ⟨rfl, rfl⟩
      refine wl ((show RO _ _ _ _ _ (i64c (s.frs ++ x).length) from hlq ▸ ro_arith rfl rfl rfl (Go.IntWalk.i64_in _ (by simp; omega)))) ?_
      refine wl (ro_nilCheck rfl) ?_
      refine wl (ro_fieldAddr (k := 8) rfl fo_82_8) ?_
      refine wls (so_storeB rfl rfl rfl sz_3 (hB3') (by simp)) ?_
      obtain ⟨M4, F4⟩ := M3.up { s with cont := ((s.frs ++ x).length : Nat), frs := s.frs ++ x ++ [(q, c', cut)] } rfl rfl rfl rfl rfl rfl
      refine wl_nil (x_blk (x_then (hK5 _ _ ?_)))
      clear hK5 K5
      refine c_reg ?_ -- region 3 run.go:10
      refine wl (ro_move rfl) ?_
      refine wl (ro_arith rfl rfl rfl (Go.IntWalk.i64_in _ (by omega))) ?_
      refine wl (ro_assign rfl) ?_
      refine wl_nil (x_then ?_)
      refine ⟨j - frm, by omega, j, _, x ++ [(q, c', cut)], ((s.frs ++ x).length : Nat), rfl, by omega, by omega, by rw [← List.append_assoc]; exact M4, ?_, by simp; omega, hn03, F03.trans (F4.mono (fun _ _ h => .inl h)), (fun h => by
        rw [← List.append_assoc]
        refine (hft h).push (argOf_lt wf hr hoa.symm) ?_ ?_
        · rcases hch.lt with h | h
          · exact h.1
          · simp only; omega
        · rcases hch.lt with h | h
          · exact h.2
          · simp only; omega), kp _ ⟨rfl, rfl, rfl, rfl, rfl, trivial⟩⟩
      rw [hst, ← List.append_assoc]
      refine ⟨(s.frs ++ x).length, c', rfl, by simp, ?_, hch.app⟩
      rcases hch.lt with h | h
      · exact h.2
      · omega
  · try simp only [decide_eq_true_eq, decide_eq_false_iff_not, Bool.not_eq_true', Bool.not_eq_false', Bool.not_eq_eq_eq_not, Bool.not_true, Bool.not_false, beq_iff_eq, bne_iff_ne, ne_eq, beq_eq_false_iff_ne, bne_eq_false_iff_eq, gt_iff_lt, ge_iff_le, Int.not_lt, Int.not_le] at hc18
    have hkf : k = frm := by have : ¬ frm < k := by { simpa using hc18 }; omega
    subst hkf
    refine c_exit (x_thenX (x_thenX (x_blkX ?_)))
    refine bp_end Tryz.results32 rfl ?_
    exact ⟨VF2, x, c', M2, hch, hxl, hn2, F2, hft⟩

/-- What a call that only shortens the machine's rows may turn. -/
theorem shut43 {w : World} {sb pb : Nat} {L : HL} {VF VG VP : Value} {s : RSt} {Fp : Nat → Prop} (M : SRm w.heap sb L pb VF VG VP s Fp) :
    Ret Tryz.prog 43 [ptr sb] w (fun _ w' => ∃ VF' VG' VP', SRm w'.heap sb L pb VF' VG' VP' { s with opn := false, cont := -1, frs := [], chs := [], proof := [] } Fp ∧ VF'.ownBlock = VF.ownBlock ∧ VG'.ownBlock = VG.ownBlock ∧ VP'.ownBlock = VP.ownBlock ∧ Fram (fun b => b = sb) w w') := by
  have hB := M.blk
  obtain ⟨aF, cF, rfl⟩ := M.fro.form
  obtain ⟨aG, cG, rfl⟩ := M.cho.form
  obtain ⟨aP, cP, rfl⟩ := M.pro.form
  have hcap : ∀ {a : Option Addr} {n c e k : Nat} {xs : List Value}, Own w.heap (.slice a n c) e k n xs → n ≤ c := by
    intro a n c e k xs h
    rcases h.2 with ⟨h1, h2⟩ | ⟨g, cap, l, h1, h2, h3, _⟩
    · injection h1 with _ h1 h3; omega
    · injection h1 with _ _ h1; omega
  have h1 := hcap M.fro
  have h2 := hcap M.cho
  have h3 := hcap M.pro
  have F0 := Fram.refl (fun b => b = sb) w
  refine ret_of Tryz.func43 rfl Tryz.ntmps43 rfl ?_
  refine c_seq (fun K1 hK1 => ?_)
  refine c_reg ?_ -- region 0 solve.go:51
  refine wl (ro_move rfl) ?_
  refine wl (ro_nilCheck rfl) ?_
  refine wl (ro_fieldAddr (k := 2) rfl fo_82_2) ?_
  refine wls (so_storeB rfl rfl rfl sz_4 (hB) (by simp)) ?_
  refine gset (C := fun w' => WL _ _ _ _ _ w') (l' := [ptr L.h, ptr pb, .bool false, S s.q, i64c s.fuel, i64c s.given, i64c s.inf, i64c s.tried, .int .i64 s.cont, .slice aF s.frs.length cF, .slice aG s.chs.length cG, .slice aP s.proof.length cP]) hB F0 ?_
  intro w1 hB1 F1
  refine wl_nil (x_then (hK1 _ _ ?_))
  clear hK1 K1
  refine forget [(0, _)] ⟨rfl, trivial⟩ (fun e => ?_)
  refine c_seq (fun K2 hK2 => ?_)
  refine c_reg ?_ -- region 1 solve.go:52
  refine wl (ro_move rfl) ?_
  refine wl (ro_nilCheck rfl) ?_
  refine wl (ro_fieldAddr (k := 8) rfl fo_82_8) ?_
  refine wls (so_storeB rfl rfl rfl sz_3 (hB1) (by simp)) ?_
  refine gset (C := fun w' => WL _ _ _ _ _ w') (l' := [ptr L.h, ptr pb, .bool false, S s.q, i64c s.fuel, i64c s.given, i64c s.inf, i64c s.tried, .int .i64 (-1), .slice aF s.frs.length cF, .slice aG s.chs.length cG, .slice aP s.proof.length cP]) hB1 F1 ?_
  clear hB1 F1
  intro w1 hB1 F1
  refine wl_nil (x_then (hK2 _ _ ?_))
  clear hK2 K2
  refine forget [(0, _)] ⟨rfl, trivial⟩ (fun e => ?_)
  refine c_seq (fun K3 hK3 => ?_)
  refine c_reg ?_ -- region 2 solve.go:53
  refine wl (ro_move rfl) ?_
  refine wl (ro_nilCheck rfl) ?_
  refine wl (ro_fieldAddr (k := 9) rfl fo_82_9) ?_
  refine wl_call rfl en_81 (Cut81 hB1 (k := 9) rfl h1 (m := 0) (by omega)) ?_
  rintro _ w2 rfl
  refine gset (C := fun w' => WL _ _ _ _ _ w') (l' := [ptr L.h, ptr pb, .bool false, S s.q, i64c s.fuel, i64c s.given, i64c s.inf, i64c s.tried, .int .i64 (-1), .slice aF 0 cF, .slice aG s.chs.length cG, .slice aP s.proof.length cP]) hB1 F1 ?_
  clear hB1 F1
  intro w1 hB1 F1
  refine wl_nil (x_then (hK3 _ _ ?_))
  clear hK3 K3
  refine forget [(0, _)] ⟨rfl, trivial⟩ (fun e => ?_)
  refine c_seq (fun K4 hK4 => ?_)
  refine c_reg ?_ -- region 3 solve.go:54
  refine wl (ro_move rfl) ?_
  refine wl (ro_nilCheck rfl) ?_
  refine wl (ro_fieldAddr (k := 10) rfl fo_82_10) ?_
  refine wl_call rfl en_72 (Cut72 hB1 (k := 10) rfl h2 (m := 0) (by omega)) ?_
  rintro _ w2 rfl
  refine gset (C := fun w' => WL _ _ _ _ _ w') (l' := [ptr L.h, ptr pb, .bool false, S s.q, i64c s.fuel, i64c s.given, i64c s.inf, i64c s.tried, .int .i64 (-1), .slice aF 0 cF, .slice aG 0 cG, .slice aP s.proof.length cP]) hB1 F1 ?_
  clear hB1 F1
  intro w1 hB1 F1
  refine wl_nil (x_then (hK4 _ _ ?_))
  clear hK4 K4
  refine c_reg ?_ -- region 4 solve.go:55
  refine wl (ro_move rfl) ?_
  refine wl (ro_move rfl) ?_
  refine wl (ro_nilCheck rfl) ?_
  refine wl (ro_fieldAddr (k := 11) rfl fo_82_11) ?_
  refine wl (ro_loadB rfl sc_66 (hB1) rfl) ?_
  refine wl (ro_sliceH (h := 0) rfl rfl se_66 rfl (by omega)) ?_
  refine wl (ro_nilCheck rfl) ?_
  refine wl (ro_fieldAddr (k := 11) rfl fo_82_11) ?_
  refine wls (so_storeB rfl rfl rfl sz_66 (hB1) (by simp)) ?_
  refine gset (C := fun w' => WL _ _ _ _ _ w') (l' := [ptr L.h, ptr pb, .bool false, S s.q, i64c s.fuel, i64c s.given, i64c s.inf, i64c s.tried, .int .i64 (-1), .slice aF 0 cF, .slice aG 0 cG, .slice aP 0 cP]) hB1 F1 ?_
  clear hB1 F1
  intro w1 hB1 F1
  refine wl_nil ?_
  refine bp_end Tryz.results43 rfl ?_
  have e1 : (Value.slice aF 0 cF).ownBlock = (Value.slice aF s.frs.length cF).ownBlock := own_same
  have e2 : (Value.slice aG 0 cG).ownBlock = (Value.slice aG s.chs.length cG).ownBlock := own_same
  have e3 : (Value.slice aP 0 cP).ownBlock = (Value.slice aP s.proof.length cP).ownBlock := own_same
  refine ⟨.slice aF 0 cF, .slice aG 0 cG, .slice aP 0 cP, ⟨hB1, ?_, ?_, ?_, M.hpr.fram F1 (fun b hb he => (M.dl b hb).1 he), M.pr.fram F1 (fun b hb he => (M.dp b hb).2.1 he), ?_, ?_, fun b hb => Nat.lt_of_lt_of_le (M.lp b hb) F1.size⟩, e1, e2, e3, F1⟩
  · have := (M.fro.fram F1 (fun b hb he => M.fro.neblk M.blk (by decide) b hb he)).cut (m := 0) (by omega)
    simpa using this
  · have := (M.cho.fram F1 (fun b hb he => M.cho.neblk M.blk (by decide) b hb he)).cut (m := 0) (by omega)
    simpa using this
  · have := (M.pro.fram F1 (fun b hb he => M.pro.neblk M.blk (by decide) b hb he)).cut (m := 0) (by omega)
    simpa using this
  · intro b hb; rw [e1, e2, e3]; exact M.dl b hb
  · intro b hb; rw [e1, e2, e3]; exact M.dp b hb

/-- A choice is taken off. -/
theorem Pop82 {w : World} {sb k t n c g : Nat} {l l2 : List Value} (hB : Blk w.heap sb l t) (hk : l[k]? = some (.slice (some ⟨g, 0, none⟩) (n + 1) c)) (hc : n + 1 ≤ c) (hG : Blk w.heap g l2 100) (hcell : ((l2.drop (n * 5)).take 5).length = 5) (hone : ∀ u ∈ (l2.drop (n * 5)).take 5, u.oneCell' = true) (hn : n ≤ 1000000) :
    Ret Tryz.prog 82 [ptrAt sb k] w (fun _ w' => Blk w'.heap sb (l.set k (.slice (some ⟨g, 0, none⟩) n c)) t ∧ Fram (fun b => b = sb) w w') := by
  have hkl := (List.getElem?_eq_some_iff.1 hk).1
  have e1 : Value.int .i64 (((n + 1 : Nat) : Int) - 1) = i64c n := by show Value.int _ _ = Value.int _ _; congr 1; omega
  obtain ⟨cs, hcs⟩ : ∃ cs, cs = (l2.drop (n * 5)).take 5 := ⟨_, rfl⟩
  rw [← hcs] at hcell hone
  obtain ⟨x0, x1, x2, x3, x4, rfl⟩ : ∃ x0 x1 x2 x3 x4, cs = [x0, x1, x2, x3, x4] := by
    match cs, hcell with
    | [x0, x1, x2, x3, x4], _ => exact ⟨_, _, _, _, _, rfl⟩
  refine ret_of Tryz.func82 rfl Tryz.ntmps82 rfl ?_
  refine c_seq (fun K1 hK1 => ?_)
  refine c_reg ?_ -- region 0 stack.go:17
  refine wle (eo_alloc ze_100) ?_
  have hR := Blk.new w [i64c 0, i64c 0, S [], i64c 0, i64c 0] 100
  have F1 := Fram.alloc none' w (.cells [i64c 0, i64c 0, S [], i64c 0, i64c 0].toArray 100)
  refine wl (ro_assign rfl) ?_
  refine wl_nil (x_then (hK1 _ _ ?_))
  clear hK1 K1
  refine forget [(0, _), (2, _)] ⟨rfl, rfl, trivial⟩ (fun e => ?_)
  refine c_seq (fun K2 hK2 => ?_)
  refine c_reg ?_ -- region 1 stack.go:18
  refine wle (eo_alloc ze_100) ?_
  have F2 := F1.thenAlloc (o := .cells [i64c 0, i64c 0, S [], i64c 0, i64c 0].toArray 100)
  have hR2 := hR.alloc (.cells [i64c 0, i64c 0, S [], i64c 0, i64c 0].toArray 100)
  refine gen2 (A := fun w2 => Blk w2.heap w.heap.size [i64c 0, i64c 0, S [], i64c 0, i64c 0] 100) (B := fun w2 => Fram none' w w2) (C := fun w2 => WL _ _ _ _ _ w2) hR2 F2 ?_
  clear hR2 F2 hR F1
  intro w2 hR F2
  have hB2 := hB.fram F2 (fun h => h)
  have hG2 := hG.fram F2 (fun h => h)
  refine wl_nil (x_then (hK2 _ _ ?_))
  clear hK2 K2
  refine forget [(0, _), (2, _), (4, _)] ⟨rfl, rfl, rfl, trivial⟩ (fun e => ?_)
  refine c_seq (fun K3 hK3 => ?_)
  refine c_reg ?_ -- region 2 stack.go:19
  refine wl (ro_move rfl) ?_
  refine wl (ro_nilCheck rfl) ?_
  refine wl (ro_fieldAddr (k := 0) rfl fo_80_0) ?_
  refine wl (ro_loadB rfl sc_78 (hB2) (hk)) ?_
  refine wl (ro_lenL rfl se_78) ?_
  refine wl (ro_assign rfl) ?_
  refine wl_nil (x_then (hK3 _ _ ?_))
  clear hK3 K3
  refine c_seq (fun K4 hK4 => ?_)
  refine c_seq (fun K5 hK5 => ?_)
  refine c_reg ?_ -- region 3 stack.go:20
  refine wl (ro_move rfl) ?_
  refine wl (ro_cmp (r := false) rfl rfl (by simp; omega)) ?_
  refine wl_nil (x_then (hK5 _ _ ?_))
  clear hK5 K5
  refine wc_condF rfl ?_
  refine c_skip (x_then (hK4 _ _ ?_))
  clear hK4 K4
  refine forget [(0, _), (2, _), (5, _)] ⟨rfl, rfl, rfl, trivial⟩ (fun e => ?_)
  refine c_seq (fun K6 hK6 => ?_)
  refine c_reg ?_ -- region 5 stack.go:23
  refine wl (ro_move rfl) ?_
  refine wl (ro_nilCheck rfl) ?_
  refine wl (ro_fieldAddr (k := 0) rfl fo_80_0) ?_
  refine wl (ro_loadB rfl sc_78 (hB2) (hk)) ?_
  refine wl (ro_move rfl) ?_
  refine wl ((show RO _ _ _ _ _ (i64c n) from e1 ▸ ro_arith rfl rfl rfl (Go.IntWalk.i64_in _ (by omega)))) ?_
  refine wl (ro_indexAddr (et := 100) (k := 5) rfl rfl se_78 rfl ((show n < n + 1 by omega))) ?_
  refine wl (ro_loadAggB rfl ag_100 (hG2) ((rfl : [x0, x1, x2, x3, x4].length = 5)) ((by rw [Nat.zero_add]; exact hcs.symm))) ?_
  refine wle (eo_alloc ze_100) ?_
  have hX := Blk.new w2 [i64c 0, i64c 0, S [], i64c 0, i64c 0] 100
  have F3 := F2.thenAlloc (o := .cells [i64c 0, i64c 0, S [], i64c 0, i64c 0].toArray 100)
  have hsz := F2.size
  refine wls (so_storeAggB rfl rfl ((by simpa using hone)) sz_100 rfl (hX) ((by simp))) ?_
  have hX2 := hX.set [x0, x1, x2, x3, x4]
  have F4 : Fram none' w (World.setRow (w2.alloc (.cells [i64c 0, i64c 0, S [], i64c 0, i64c 0].toArray 100)) w2.heap.size [x0, x1, x2, x3, x4].toArray) := F3.trans' (Fram.set (F := fun b => b = w2.heap.size) _ w2.heap.size _ (.inl rfl)) (fun q hq hx => absurd hx (by omega))
  have hR4 : Blk (World.setRow (w2.alloc (.cells [i64c 0, i64c 0, S [], i64c 0, i64c 0].toArray 100)) w2.heap.size [x0, x1, x2, x3, x4].toArray).heap w.heap.size [i64c 0, i64c 0, S [], i64c 0, i64c 0] 100 := (hR.alloc _).fram (Fram.set (F := fun b => b = w2.heap.size) _ w2.heap.size _ (.inl rfl)) (by have := hR.lt; omega)
  refine gen3 (A := fun w4 => Blk w4.heap w2.heap.size [x0, x1, x2, x3, x4] 100) (B := fun w4 => Blk w4.heap w.heap.size [i64c 0, i64c 0, S [], i64c 0, i64c 0] 100) (D := fun w4 => Fram none' w w4) (C := fun w4 => WL _ _ _ _ _ w4) hX2 hR4 F4 ?_
  have hrl := hR.lt
  clear hX2 hR4 F4 F3 hX
  intro w4 hX hR4 F4
  have hB4 := hB.fram F4 (fun h => h)
  refine wl_nil (x_then (hK6 _ _ ?_))
  clear hK6 K6
  refine forget [(0, _), (2, _), (5, _), (6, _)] ⟨rfl, rfl, rfl, rfl, trivial⟩ (fun e => ?_)
  refine c_seq (fun K7 hK7 => ?_)
  refine c_reg ?_ -- region 6 stack.go:24
  refine wl (ro_move rfl) ?_
  refine wl (ro_move rfl) ?_
  refine wl (ro_nilCheck rfl) ?_
  refine wl (ro_fieldAddr (k := 0) rfl fo_80_0) ?_
  refine wl (ro_loadB rfl sc_78 (hB4) (hk)) ?_
  refine wl (ro_move rfl) ?_
  refine wl ((show RO _ _ _ _ _ (i64c n) from e1 ▸ ro_arith rfl rfl rfl (Go.IntWalk.i64_in _ (by omega)))) ?_
  refine wl (ro_sliceH (h := n) rfl rfl se_78 rfl (by omega)) ?_
  refine wl (ro_nilCheck rfl) ?_
  refine wl (ro_fieldAddr (k := 0) rfl fo_80_0) ?_
  refine wls (so_storeB rfl rfl rfl sz_78 (hB4) (hkl)) ?_
  have FS : Fram (fun b => b = sb) w4 (w4.setRow sb (l.set k (.slice (some ⟨g, 0, none⟩) n c)).toArray) := Fram.set w4 sb _ (.inl rfl)
  have hB5 := hB4.set (l.set k (.slice (some ⟨g, 0, none⟩) n c))
  have hsl := hB.lt
  have hX5 := hX.fram FS (by omega)
  have hR5 := hR4.fram FS (by omega)
  refine gen3 (A := fun w5 => Blk w5.heap w2.heap.size [x0, x1, x2, x3, x4] 100 ∧ Blk w5.heap w.heap.size [i64c 0, i64c 0, S [], i64c 0, i64c 0] 100) (B := fun w5 => Blk w5.heap sb (l.set k (.slice (some ⟨g, 0, none⟩) n c)) t) (D := fun w5 => Fram (fun b => b = sb) w w5) (C := fun w5 => WL _ _ _ _ _ w5) ⟨hX5, hR5⟩ hB5 ((F4.mono (fun _ _ h => h.elim)).trans FS) ?_
  clear hX5 hR5 hB5 FS hX hR4 hB4 F4
  rintro w5 ⟨hX, hR5⟩ hB5 F5
  refine wl_nil (x_then (hK7 _ _ ?_))
  clear hK7 K7
  refine forget [(2, _), (6, _)] ⟨rfl, rfl, trivial⟩ (fun e => ?_)
  refine c_seq (fun K8 hK8 => ?_)
  refine c_reg ?_ -- region 7 stack.go:25
  refine wl (ro_loadAggB rfl ag_100 (hX) rfl rfl) ?_
  refine wls (so_storeAggB rfl rfl ((by simpa using hone)) sz_100 rfl (hR5) ((by simp))) ?_
  have hR6 := hR5.set [x0, x1, x2, x3, x4]
  have FT : Fram (fun b => b = w.heap.size) w5 (w5.setRow w.heap.size [x0, x1, x2, x3, x4].toArray) := Fram.set w5 w.heap.size _ (.inl rfl)
  have hB6 := hB5.fram FT (by omega)
  have F6 := F5.trans' FT (fun q hq hx => absurd hx (by omega))
  refine wl (ro_assign rfl) ?_
  refine wl_nil (x_then (hK8 _ _ ?_))
  clear hK8 K8
  refine c_ret ?_
  exact bodyPost_ret (results_cAt Tryz.results82 rfl rfl ag_100 hR6 rfl) rfl ⟨_, rfl, hB6, F6⟩

end Go.Proofs.Qxb6500569aGreat
