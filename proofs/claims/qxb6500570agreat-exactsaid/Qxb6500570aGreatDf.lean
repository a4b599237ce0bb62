import Derived.Test.Qxb6500570aGreatDe
/- The real evaluator: one instruction; the run. -/
namespace Go.Proofs.Qxb6500570aGreat
set_option linter.unusedVariables false
set_option linter.unusedSimpArgs false

/-- A stack in an array. -/
def SKR {α : Type} (L s : List α) : Prop := L.length = 24 ∧ L.take s.length = s.reverse
theorem SKR.top {α : Type} {L s : List α} {x : α} (h : SKR L (x :: s)) : L[s.length]? = some x ∧ SKR L s := by
  obtain ⟨h1, h2⟩ := h
  rw [List.length_cons, List.reverse_cons] at h2
  have hl : s.length < L.length := by
    have := congrArg List.length h2
    rw [List.length_take, List.length_append, List.length_reverse, List.length_singleton] at this
    omega
  rw [List.take_succ_eq_append_getElem hl] at h2
  have h3 := List.append_inj h2 (by rw [List.length_take, List.length_reverse]; omega)
  refine ⟨?_, h1, h3.1⟩
  rw [List.getElem?_eq_getElem hl]
  have := h3.2
  simp only [List.cons.injEq, and_true] at this
  rw [this]
theorem SKR.push {α : Type} {L s : List α} (x : α) (h : SKR L s) (hl : s.length < 24) : SKR (L.set s.length x) (x :: s) := by
  obtain ⟨h1, h2⟩ := h
  refine ⟨by rw [List.length_set]; exact h1, ?_⟩
  rw [List.length_cons, List.reverse_cons, List.take_succ_eq_append_getElem (by rw [List.length_set]; omega), List.take_set_of_le (Nat.le_refl _), h2]
  simp
theorem SKR.le {α : Type} {L s : List α} (h : SKR L s) : s.length ≤ 24 := by
  have := congrArg List.length h.2
  rw [List.length_take, List.length_reverse] at this
  have := h.1
  omega
theorem SKR.nil {α : Type} {L : List α} (h : L.length = 24) : SKR L [] := ⟨h, rfl⟩

theorem ok1 {x : In} {z : List Vl × List Ty} (h : okI x z) (hd : x.d = 1) : z.1.length < 24 ∧ Lw x.v := by
  rcases h with h | h | h | h | h | h | h | h | h | h
  · exact h.2
  all_goals (have := h.1; omega)
theorem ok2 {x : In} {z : List Vl × List Ty} (h : okI x z) (hd : x.d = 2) : z.1.length < 24 ∧ x.a < 24 := by
  rcases h with h | h | h | h | h | h | h | h | h | h
  · have := h.1; omega
  · exact h.2
  all_goals (have := h.1; omega)
theorem ok3 {x : In} {z : List Vl × List Ty} (h : okI x z) (hd : x.d = 3) : ∃ v s, z.1 = v :: s ∧ Lw v := by
  rcases h with h | h | h | h | h | h | h | h | h | h
  · have := h.1; omega
  · have := h.1; omega
  · exact h.2
  all_goals (have := h.1; omega)
theorem ok4 {x : In} {z : List Vl × List Ty} (h : okI x z) (hd : x.d = 4) : 1 ≤ x.a ∧ x.a ≤ 10 ∧ ∃ y u s, z.1 = y :: u :: s ∧ Lw y ∧ Lw u := by
  rcases h with h | h | h | h | h | h | h | h | h | h
  · have := h.1; omega
  · have := h.1; omega
  · have := h.1; omega
  · exact h.2
  all_goals (have := h.1; omega)
theorem ok5 {x : In} {z : List Vl × List Ty} (h : okI x z) (hd : x.d = 5) : ∃ y u c s, z.1 = y :: u :: c :: s ∧ Lw c := by
  rcases h with h | h | h | h | h | h | h | h | h | h
  · have := h.1; omega
  · have := h.1; omega
  · have := h.1; omega
  · have := h.1; omega
  · exact h.2
  all_goals (have := h.1; omega)
theorem ok6 {x : In} {z : List Vl × List Ty} (h : okI x z) (hd : x.d = 6) : z.2.length < 24 := by
  rcases h with h | h | h | h | h | h | h | h | h | h
  · have := h.1; omega
  · have := h.1; omega
  · have := h.1; omega
  · have := h.1; omega
  · have := h.1; omega
  · exact h.2
  all_goals (have := h.1; omega)
theorem ok7 {x : In} {z : List Vl × List Ty} (h : okI x z) (hd : x.d = 7) : ∃ v s t r, z.1 = v :: s ∧ z.2 = t :: r ∧ Lw v ∧ TyOK x.a 1000 t := by
  rcases h with h | h | h | h | h | h | h | h | h | h
  · have := h.1; omega
  · have := h.1; omega
  · have := h.1; omega
  · have := h.1; omega
  · have := h.1; omega
  · have := h.1; omega
  · exact h.2
  all_goals (have := h.1; omega)
theorem ok8 {x : In} {z : List Vl × List Ty} (h : okI x z) (hd : x.d = 8) : x.m < 2 ^ 24 ∧ ∃ t r, z.2 = t :: r ∧ TyOK x.a 1000 t := by
  rcases h with h | h | h | h | h | h | h | h | h | h
  · have := h.1; omega
  · have := h.1; omega
  · have := h.1; omega
  · have := h.1; omega
  · have := h.1; omega
  · have := h.1; omega
  · have := h.1; omega
  · exact h.2
  all_goals (have := h.1; omega)
theorem ok9 {x : In} {z : List Vl × List Ty} (h : okI x z) (hd : x.d = 9) : ∃ t r, z.2 = t :: r ∧ TyOK x.a 1000 t := by
  rcases h with h | h | h | h | h | h | h | h | h | h
  · have := h.1; omega
  · have := h.1; omega
  · have := h.1; omega
  · have := h.1; omega
  · have := h.1; omega
  · have := h.1; omega
  · have := h.1; omega
  · have := h.1; omega
  · exact h.2
  all_goals (have := h.1; omega)
theorem ok10 {x : In} {z : List Vl × List Ty} (h : okI x z) (hd : x.d = 10) : z.1.length < 24 ∧ ∃ t r, z.2 = t :: r ∧ TyOK x.a 1000 t := by
  rcases h with h | h | h | h | h | h | h | h | h | h
  · have := h.1; omega
  · have := h.1; omega
  · have := h.1; omega
  · have := h.1; omega
  · have := h.1; omega
  · have := h.1; omega
  · have := h.1; omega
  · have := h.1; omega
  · have := h.1; omega
  · exact h.2
theorem ok_d {x : In} {z : List Vl × List Ty} (h : okI x z) : 1 ≤ x.d ∧ x.d ≤ 10 := by
  rcases h with h | h | h | h | h | h | h | h | h | h
  all_goals (have := h.1; omega)

/-- The machine. -/
def VM (w : World) (B : EB) (st cl : Nat) (z : List Vl × List Ty) : Prop :=
  ∃ SL TL, SKR SL z.1 ∧ SKR TL z.2 ∧ Blk w.heap B.e (evs B st cl z.1.length z.2.length) 89 ∧ Blk w.heap B.s (rws vlc SL) 104 ∧ Blk w.heap B.t (rws tyc TL) 228
def est (B : EB) : Nat → Prop := fun b => b = B.e ∨ b = B.s ∨ b = B.t

set_option maxHeartbeats 8000000 in
theorem step188 {w : World} {B : EB} {st cl vb : Nat} {z : List Vl × List Ty} {EL : List Vl} {x : In} (ho : EBo B) (hv : B.t < vb) (hM : VM w B st cl z) (hV : Blk w.heap vb (rws vlc EL) 104) (hel : EL.length = 24) (hL : ∀ c, c < 24 → Lw (envF EL c)) (hok : okI x z) :
    Ret Tryz.prog 188 [ptr B.e, .agg (inc x).toArray, sl vb 24] w (fun _ w' => VM w' B st cl (exI (envF EL) x z) ∧ Fram (est B) w w') := by
  have hF : Fram (est B) w w := Fram.refl _ _
  have hm1 : est B B.e := .inl rfl
  have hm2 : est B B.s := .inr (.inl rfl)
  have hm3 : est B B.t := .inr (.inr rfl)
  obtain ⟨vs, ts⟩ := z
  obtain ⟨SL, TL, hSl, hTl, hB, hK, hT⟩ := hM
  replace hSl : SKR SL vs := hSl
  replace hTl : SKR TL ts := hTl
  replace hB : Blk w.heap B.e (evs B st cl vs.length ts.length) 89 := hB
  have hod := ok_d hok
  have hs24 := hSl.le
  have ht24 := hTl.le
  have ho' := ho
  unfold EBo at ho
  refine ret_of Tryz.func188 rfl Tryz.ntmps188 rfl ?_
  refine c_seq (fun K1 hK1 => ?_)
  refine c_reg ?_ -- region 0 run.go:35
  refine wl_box rfl rfl (fun b4 w1 hbb4 h4 F1 => ?_)
  have hbsb4 := Nat.le_trans hF.size hbb4
  have hneB.eb4 : B.e < b4 := Nat.lt_of_lt_of_le hB.lt hbb4
  have hneB.sb4 : B.s < b4 := Nat.lt_of_lt_of_le hK.lt hbb4
  have hneB.tb4 : B.t < b4 := Nat.lt_of_lt_of_le hT.lt hbb4
  have hnevbb4 : vb < b4 := Nat.lt_of_lt_of_le hV.lt hbb4
  replace hF := hF.thenDrew.thenN F1
  replace hB := F1.blkN hB
  replace hK := F1.blkN hK
  replace hT := F1.blkN hT
  replace hV := F1.blkN hV
  refine wl_nil (x_then (hK1 _ _ ?_))
  clear hK1 K1
  refine forget [(0, _), (2, _), (4, _)] ⟨rfl, rfl, rfl, trivial⟩ (fun e => ?_)
  refine c_seq (fun K2 hK2 => ?_)
  refine c_reg ?_ -- region 1 run.go:36
  refine wl (ro_fieldAddr (k := 0) rfl fo_213_0) ?_
  refine wl (ro_loadB rfl sc_3 (by assumption) rfl) ?_
  refine wl_nil (x_then (hK2 _ _ ?_))
  clear hK2 K2
  refine c_block ?_
  refine forget [(0, _), (2, _), (4, _), (19, _)] ⟨rfl, rfl, rfl, rfl, trivial⟩ (fun e => ?_)
  refine c_seq (fun K3 hK3 => ?_)
  refine c_reg ?_ -- region 2 run.go:37
  refine wl (ro_cmp rfl rfl rfl) ?_
  refine wl (ro_assign rfl) ?_
  refine wl_nil (x_then (hK3 _ _ ?_))
  clear hK3 K3
  refine wc_cond rfl (fun hc20 => ?_) (fun hc20 => ?_)
  · try simp only [decide_eq_true_eq, decide_eq_false_iff_not, Bool.not_eq_true', Bool.not_eq_false', Bool.not_eq_eq_eq_not, Bool.not_true, Bool.not_false, beq_iff_eq, bne_iff_ne, ne_eq, beq_eq_false_iff_ne, bne_eq_false_iff_eq, gt_iff_lt, ge_iff_le, Int.not_lt, Int.not_le] at hc20
    have hdd : x.d = 1 := by omega
    obtain ⟨k1, k2⟩ := ok1 hok hdd
    refine c_reg ?_ -- region 3 run.go:38
    refine wl (ro_move rfl) ?_
    refine wl (ro_fieldAddr (k := 2) rfl fo_213_2) ?_
    refine wl (ro_loadAggB rfl ag_104 (by assumption) rfl rfl) ?_
    refine wl_call rfl en_206 (push206 ho' hB hK hSl.1 k1) ?_
    rintro _ u1 ⟨hB, hK, G1⟩
    replace hF := hF.transG G1 (by intro k hk h; simp only [one, none', es, et, est] at h ⊢ <;> omega)
    replace hT := G1.blkF hT (by intro h; simp only [one, none', es, et, est] at h <;> omega)
    replace hV := G1.blkF hV (by intro h; simp only [one, none', es, et, est] at h <;> omega)
    replace h4 := G1.blkF h4 (by intro h; simp only [one, none', es, et, est] at h <;> omega)
    refine wl_nil (x_blk ?_)
    refine bp_end Tryz.results188 rfl ?_
    refine ⟨?_, hF⟩
    rw [show exI (envF EL) x (vs, ts) = (x.v :: vs, ts) by unfold exI; rw [if_pos hdd]]
    exact ⟨_, _, hSl.push x.v k1, hTl, hB, hK, hT⟩
  · try simp only [decide_eq_true_eq, decide_eq_false_iff_not, Bool.not_eq_true', Bool.not_eq_false', Bool.not_eq_eq_eq_not, Bool.not_true, Bool.not_false, beq_iff_eq, bne_iff_ne, ne_eq, beq_eq_false_iff_ne, bne_eq_false_iff_eq, gt_iff_lt, ge_iff_le, Int.not_lt, Int.not_le] at hc20
    refine c_seq (fun K4 hK4 => ?_)
    refine c_reg ?_ -- region 4 run.go:39
    refine wl (ro_cmp rfl rfl rfl) ?_
    refine wl (ro_assign rfl) ?_
    refine wl_nil (x_then (hK4 _ _ ?_))
    clear hK4 K4
    refine wc_cond rfl (fun hc26 => ?_) (fun hc26 => ?_)
    · try simp only [decide_eq_true_eq, decide_eq_false_iff_not, Bool.not_eq_true', Bool.not_eq_false', Bool.not_eq_eq_eq_not, Bool.not_true, Bool.not_false, beq_iff_eq, bne_iff_ne, ne_eq, beq_eq_false_iff_ne, bne_eq_false_iff_eq, gt_iff_lt, ge_iff_le, Int.not_lt, Int.not_le] at hc26
      have hdd : x.d = 2 := by omega
      obtain ⟨k1, k2⟩ := ok2 hok hdd
      refine c_reg ?_ -- region 5 run.go:40
      refine wl (ro_move rfl) ?_
      refine wl (ro_move rfl) ?_
      refine wl (ro_fieldAddr (k := 1) rfl fo_213_1) ?_
      refine wl (ro_loadB rfl sc_3 (by assumption) rfl) ?_
      refine wl (ro_indexAddr (et := 104) (k := 3) rfl rfl se_86 rfl (by omega)) ?_
      refine wl (ro_loadAggB rfl ag_104 (hV) ((vlc_len _)) ((rw_agg vlc_len (env_get (EL := EL) (c := x.a) (by omega)) (by omega)))) ?_
      refine wl_call rfl en_206 (push206 ho' hB hK hSl.1 k1) ?_
      rintro _ u1 ⟨hB, hK, G1⟩
      replace hF := hF.transG G1 (by intro k hk h; simp only [one, none', es, et, est] at h ⊢ <;> omega)
      replace hT := G1.blkF hT (by intro h; simp only [one, none', es, et, est] at h <;> omega)
      replace hV := G1.blkF hV (by intro h; simp only [one, none', es, et, est] at h <;> omega)
      replace h4 := G1.blkF h4 (by intro h; simp only [one, none', es, et, est] at h <;> omega)
      refine wl_nil (x_blk ?_)
      refine bp_end Tryz.results188 rfl ?_
      refine ⟨?_, hF⟩
      rw [show exI (envF EL) x (vs, ts) = (envF EL x.a :: vs, ts) by unfold exI; rw [if_neg (by omega), if_pos hdd]]
      exact ⟨_, _, hSl.push _ k1, hTl, hB, hK, hT⟩
    · try simp only [decide_eq_true_eq, decide_eq_false_iff_not, Bool.not_eq_true', Bool.not_eq_false', Bool.not_eq_eq_eq_not, Bool.not_true, Bool.not_false, beq_iff_eq, bne_iff_ne, ne_eq, beq_eq_false_iff_ne, bne_eq_false_iff_eq, gt_iff_lt, ge_iff_le, Int.not_lt, Int.not_le] at hc26
      refine c_seq (fun K5 hK5 => ?_)
      refine c_reg ?_ -- region 6 run.go:41
      refine wl (ro_cmp rfl rfl rfl) ?_
      refine wl (ro_assign rfl) ?_
      refine wl_nil (x_then (hK5 _ _ ?_))
      clear hK5 K5
      refine wc_cond rfl (fun hc35 => ?_) (fun hc35 => ?_)
      · try simp only [decide_eq_true_eq, decide_eq_false_iff_not, Bool.not_eq_true', Bool.not_eq_false', Bool.not_eq_eq_eq_not, Bool.not_true, Bool.not_false, beq_iff_eq, bne_iff_ne, ne_eq, beq_eq_false_iff_ne, bne_eq_false_iff_eq, gt_iff_lt, ge_iff_le, Int.not_lt, Int.not_le] at hc35
        have hdd : x.d = 3 := by omega
        obtain ⟨v, s, hz, hv1⟩ := ok3 hok hdd
        have hz' : vs = v :: s := hz
        subst hz'
        have hs1 := hSl.top
        have hs24' : s.length < 24 := by simp only [List.length_cons] at hs24; omega
        refine c_seq (fun K6 hK6 => ?_)
        refine c_reg ?_ -- region 7 run.go:42
        refine wl (ro_move rfl) ?_
        refine wl_call rfl en_189 (pop189 (top := s.length) ho' hB hK hSl.1 (by omega) hs1.1) ?_
        rintro _ u1 ⟨rfl, hB, G1⟩
        replace hF := hF.transG G1 (by intro k hk h; simp only [one, none', es, et, est] at h ⊢ <;> omega)
        replace hK := G1.blkF hK (by intro h; simp only [one, none', es, et, est] at h <;> omega)
        replace hT := G1.blkF hT (by intro h; simp only [one, none', es, et, est] at h <;> omega)
        replace hV := G1.blkF hV (by intro h; simp only [one, none', es, et, est] at h <;> omega)
        replace h4 := G1.blkF h4 (by intro h; simp only [one, none', es, et, est] at h <;> omega)
        refine wl_new (ze_104) (fun b6 w2 hbb6 h6 F2 => ?_)
        have hbsb6 := Nat.le_trans hF.size hbb6
        have hneB.eb6 : B.e < b6 := Nat.lt_of_lt_of_le hB.lt hbb6
        have hneB.sb6 : B.s < b6 := Nat.lt_of_lt_of_le hK.lt hbb6
        have hneB.tb6 : B.t < b6 := Nat.lt_of_lt_of_le hT.lt hbb6
        have hnevbb6 : vb < b6 := Nat.lt_of_lt_of_le hV.lt hbb6
        have hneb4b6 : b4 < b6 := Nat.lt_of_lt_of_le h4.lt hbb6
        replace hF := hF.thenDrew.thenN F2
        replace hB := F2.blkN hB
        replace hK := F2.blkN hK
        replace hT := F2.blkN hT
        replace hV := F2.blkN hV
        replace h4 := F2.blkN h4
        refine wl_puta rfl rfl ((by (try exact vlc_cells _); all_goals simp [Value.oneCell', i64c, icv, u64c, u8c, ptr, S])) sz_104 (rfl) h6 ((by simp)) (rfl) (fun w3 h6 F3 => ?_)
        replace hF := hF.thenDrew.thenO F3 (by first | exact .inr (by omega) | exact .inl rfl | exact .inl (by assumption))
        replace hB := F3.blkO hB (by omega)
        replace hK := F3.blkO hK (by omega)
        replace hT := F3.blkO hT (by omega)
        replace hV := F3.blkO hV (by omega)
        replace h4 := F3.blkO h4 (by omega)
        refine wl_nil (x_then (hK6 _ _ ?_))
        clear hK6 K6
        refine forget [(0, _), (4, _), (6, _)] ⟨rfl, rfl, rfl, trivial⟩ (fun e => ?_)
        refine c_seq (fun K7 hK7 => ?_)
        refine c_reg ?_ -- region 8 run.go:43
        refine wl (ro_fieldAddr (k := 1) rfl fo_213_1) ?_
        refine wl (ro_loadB rfl sc_3 (by assumption) rfl) ?_
        refine wl (ro_loadAggB rfl ag_104 (by assumption) rfl rfl) ?_
        refine wl_call rfl en_207 (unary207 hv1) ?_
        rintro _ w4 ⟨rfl, F4⟩
        replace hF := hF.thenDrew.thenN F4
        replace hB := F4.blkN hB
        replace hK := F4.blkN hK
        replace hT := F4.blkN hT
        replace hV := F4.blkN hV
        replace h4 := F4.blkN h4
        replace h6 := F4.blkN h6
        refine wl_new (ze_104) (fun b7 w5 hbb7 h7 F5 => ?_)
        have hbsb7 := Nat.le_trans hF.size hbb7
        have hneB.eb7 : B.e < b7 := Nat.lt_of_lt_of_le hB.lt hbb7
        have hneB.sb7 : B.s < b7 := Nat.lt_of_lt_of_le hK.lt hbb7
        have hneB.tb7 : B.t < b7 := Nat.lt_of_lt_of_le hT.lt hbb7
        have hnevbb7 : vb < b7 := Nat.lt_of_lt_of_le hV.lt hbb7
        have hneb4b7 : b4 < b7 := Nat.lt_of_lt_of_le h4.lt hbb7
        have hneb6b7 : b6 < b7 := Nat.lt_of_lt_of_le h6.lt hbb7
        replace hF := hF.thenDrew.thenN F5
        replace hB := F5.blkN hB
        replace hK := F5.blkN hK
        replace hT := F5.blkN hT
        replace hV := F5.blkN hV
        replace h4 := F5.blkN h4
        replace h6 := F5.blkN h6
        refine wl_puta rfl rfl ((by (try exact vlc_cells _); all_goals simp [Value.oneCell', i64c, icv, u64c, u8c, ptr, S])) sz_104 (rfl) h7 ((by simp)) (rfl) (fun w6 h7 F6 => ?_)
        replace hF := hF.thenDrew.thenO F6 (by first | exact .inr (by omega) | exact .inl rfl | exact .inl (by assumption))
        replace hB := F6.blkO hB (by omega)
        replace hK := F6.blkO hK (by omega)
        replace hT := F6.blkO hT (by omega)
        replace hV := F6.blkO hV (by omega)
        replace h4 := F6.blkO h4 (by omega)
        replace h6 := F6.blkO h6 (by omega)
        refine wl_nil (x_then (hK7 _ _ ?_))
        clear hK7 K7
        refine c_reg ?_ -- region 9 run.go:44
        refine wl (ro_move rfl) ?_
        refine wl (ro_loadAggB rfl ag_104 (by assumption) rfl rfl) ?_
        refine wl_call rfl en_206 (push206 ho' hB hK hs1.2.1 hs24') ?_
        rintro _ u2 ⟨hB, hK, G2⟩
        replace hF := hF.transG G2 (by intro k hk h; simp only [one, none', es, et, est] at h ⊢ <;> omega)
        replace hT := G2.blkF hT (by intro h; simp only [one, none', es, et, est] at h <;> omega)
        replace hV := G2.blkF hV (by intro h; simp only [one, none', es, et, est] at h <;> omega)
        replace h4 := G2.blkF h4 (by intro h; simp only [one, none', es, et, est] at h <;> omega)
        replace h6 := G2.blkF h6 (by intro h; simp only [one, none', es, et, est] at h <;> omega)
        replace h7 := G2.blkF h7 (by intro h; simp only [one, none', es, et, est] at h <;> omega)
        refine wl_nil (x_blk ?_)
        refine bp_end Tryz.results188 rfl ?_
        refine ⟨?_, hF⟩
        rw [show exI (envF EL) x (v :: s, ts) = (unV x.a v :: s, ts) by unfold exI; rw [if_neg (by omega), if_neg (by omega), if_pos hdd]]
        exact ⟨_, _, hs1.2.push _ hs24', hTl, hB, hK, hT⟩
      · try simp only [decide_eq_true_eq, decide_eq_false_iff_not, Bool.not_eq_true', Bool.not_eq_false', Bool.not_eq_eq_eq_not, Bool.not_true, Bool.not_false, beq_iff_eq, bne_iff_ne, ne_eq, beq_eq_false_iff_ne, bne_eq_false_iff_eq, gt_iff_lt, ge_iff_le, Int.not_lt, Int.not_le] at hc35
        refine c_seq (fun K8 hK8 => ?_)
        refine c_reg ?_ -- region 10 run.go:45
        refine wl (ro_cmp rfl rfl rfl) ?_
        refine wl (ro_assign rfl) ?_
        refine wl_nil (x_then (hK8 _ _ ?_))
        clear hK8 K8
        refine wc_cond rfl (fun hc46 => ?_) (fun hc46 => ?_)
        · try simp only [decide_eq_true_eq, decide_eq_false_iff_not, Bool.not_eq_true', Bool.not_eq_false', Bool.not_eq_eq_eq_not, Bool.not_true, Bool.not_false, beq_iff_eq, bne_iff_ne, ne_eq, beq_eq_false_iff_ne, bne_eq_false_iff_eq, gt_iff_lt, ge_iff_le, Int.not_lt, Int.not_le] at hc46
          have hdd : x.d = 4 := by omega
          obtain ⟨k1, k2, y, u, s, hz, hv1, hv2⟩ := ok4 hok hdd
          have hz' : vs = y :: u :: s := hz
          subst hz'
          have hs1 := hSl.top
          have hs2 := hs1.2.top
          have hs24' : s.length + 1 < 24 := by simp only [List.length_cons] at hs24; omega
          refine c_seq (fun K9 hK9 => ?_)
          refine c_reg ?_ -- region 11 run.go:46
          refine wl (ro_move rfl) ?_
          refine wl_call rfl en_189 (pop189 (top := (u :: s).length) ho' hB hK hSl.1 (by simp only [List.length_cons]; omega) hs1.1) ?_
          rintro _ u1 ⟨rfl, hB, G1⟩
          replace hF := hF.transG G1 (by intro k hk h; simp only [one, none', es, et, est] at h ⊢ <;> omega)
          replace hK := G1.blkF hK (by intro h; simp only [one, none', es, et, est] at h <;> omega)
          replace hT := G1.blkF hT (by intro h; simp only [one, none', es, et, est] at h <;> omega)
          replace hV := G1.blkF hV (by intro h; simp only [one, none', es, et, est] at h <;> omega)
          replace h4 := G1.blkF h4 (by intro h; simp only [one, none', es, et, est] at h <;> omega)
          refine wl_new (ze_104) (fun b8 w7 hbb8 h8 F7 => ?_)
          have hbsb8 := Nat.le_trans hF.size hbb8
          have hneB.eb8 : B.e < b8 := Nat.lt_of_lt_of_le hB.lt hbb8
          have hneB.sb8 : B.s < b8 := Nat.lt_of_lt_of_le hK.lt hbb8
          have hneB.tb8 : B.t < b8 := Nat.lt_of_lt_of_le hT.lt hbb8
          have hnevbb8 : vb < b8 := Nat.lt_of_lt_of_le hV.lt hbb8
          have hneb4b8 : b4 < b8 := Nat.lt_of_lt_of_le h4.lt hbb8
          replace hF := hF.thenDrew.thenN F7
          replace hB := F7.blkN hB
          replace hK := F7.blkN hK
          replace hT := F7.blkN hT
          replace hV := F7.blkN hV
          replace h4 := F7.blkN h4
          refine wl_puta rfl rfl ((by (try exact vlc_cells _); all_goals simp [Value.oneCell', i64c, icv, u64c, u8c, ptr, S])) sz_104 (rfl) h8 ((by simp)) (rfl) (fun w8 h8 F8 => ?_)
          replace hF := hF.thenDrew.thenO F8 (by first | exact .inr (by omega) | exact .inl rfl | exact .inl (by assumption))
          replace hB := F8.blkO hB (by omega)
          replace hK := F8.blkO hK (by omega)
          replace hT := F8.blkO hT (by omega)
          replace hV := F8.blkO hV (by omega)
          replace h4 := F8.blkO h4 (by omega)
          refine wl_nil (x_then (hK9 _ _ ?_))
          clear hK9 K9
          refine forget [(0, _), (4, _), (8, _)] ⟨rfl, rfl, rfl, trivial⟩ (fun e => ?_)
          refine c_seq (fun K10 hK10 => ?_)
          refine c_reg ?_ -- region 12 run.go:47
          refine wl (ro_move rfl) ?_
          refine wl_call rfl en_189 (pop189 (top := s.length) ho' hB hK hs1.2.1 (by omega) hs2.1) ?_
          rintro _ u2 ⟨rfl, hB, G2⟩
          replace hF := hF.transG G2 (by intro k hk h; simp only [one, none', es, et, est] at h ⊢ <;> omega)
          replace hK := G2.blkF hK (by intro h; simp only [one, none', es, et, est] at h <;> omega)
          replace hT := G2.blkF hT (by intro h; simp only [one, none', es, et, est] at h <;> omega)
          replace hV := G2.blkF hV (by intro h; simp only [one, none', es, et, est] at h <;> omega)
          replace h4 := G2.blkF h4 (by intro h; simp only [one, none', es, et, est] at h <;> omega)
          replace h8 := G2.blkF h8 (by intro h; simp only [one, none', es, et, est] at h <;> omega)
          refine wl_new (ze_104) (fun b9 w9 hbb9 h9 F9 => ?_)
          have hbsb9 := Nat.le_trans hF.size hbb9
          have hneB.eb9 : B.e < b9 := Nat.lt_of_lt_of_le hB.lt hbb9
          have hneB.sb9 : B.s < b9 := Nat.lt_of_lt_of_le hK.lt hbb9
          have hneB.tb9 : B.t < b9 := Nat.lt_of_lt_of_le hT.lt hbb9
          have hnevbb9 : vb < b9 := Nat.lt_of_lt_of_le hV.lt hbb9
          have hneb4b9 : b4 < b9 := Nat.lt_of_lt_of_le h4.lt hbb9
          have hneb8b9 : b8 < b9 := Nat.lt_of_lt_of_le h8.lt hbb9
          replace hF := hF.thenDrew.thenN F9
          replace hB := F9.blkN hB
          replace hK := F9.blkN hK
          replace hT := F9.blkN hT
          replace hV := F9.blkN hV
          replace h4 := F9.blkN h4
          replace h8 := F9.blkN h8
          refine wl_puta rfl rfl ((by (try exact vlc_cells _); all_goals simp [Value.oneCell', i64c, icv, u64c, u8c, ptr, S])) sz_104 (rfl) h9 ((by simp)) (rfl) (fun w10 h9 F10 => ?_)
          replace hF := hF.thenDrew.thenO F10 (by first | exact .inr (by omega) | exact .inl rfl | exact .inl (by assumption))
          replace hB := F10.blkO hB (by omega)
          replace hK := F10.blkO hK (by omega)
          replace hT := F10.blkO hT (by omega)
          replace hV := F10.blkO hV (by omega)
          replace h4 := F10.blkO h4 (by omega)
          replace h8 := F10.blkO h8 (by omega)
          refine wl_nil (x_then (hK10 _ _ ?_))
          clear hK10 K10
          refine forget [(0, _), (4, _), (8, _), (9, _)] ⟨rfl, rfl, rfl, rfl, trivial⟩ (fun e => ?_)
          refine c_seq (fun K11 hK11 => ?_)
          refine c_reg ?_ -- region 13 run.go:48
          refine wl (ro_fieldAddr (k := 1) rfl fo_213_1) ?_
          refine wl (ro_loadB rfl sc_3 (by assumption) rfl) ?_
          refine wl (ro_loadAggB rfl ag_104 (by assumption) rfl rfl) ?_
          refine wl (ro_loadAggB rfl ag_104 (by assumption) rfl rfl) ?_
          refine wl_call rfl en_208 (binary208 hv2 hv1 (by omega)) ?_
          rintro _ w11 ⟨rfl, F11⟩
          replace hF := hF.thenDrew.thenN F11
          replace hB := F11.blkN hB
          replace hK := F11.blkN hK
          replace hT := F11.blkN hT
          replace hV := F11.blkN hV
          replace h4 := F11.blkN h4
          replace h8 := F11.blkN h8
          replace h9 := F11.blkN h9
          refine wl_new (ze_104) (fun b10 w12 hbb10 h10 F12 => ?_)
          have hbsb10 := Nat.le_trans hF.size hbb10
          have hneB.eb10 : B.e < b10 := Nat.lt_of_lt_of_le hB.lt hbb10
          have hneB.sb10 : B.s < b10 := Nat.lt_of_lt_of_le hK.lt hbb10
          have hneB.tb10 : B.t < b10 := Nat.lt_of_lt_of_le hT.lt hbb10
          have hnevbb10 : vb < b10 := Nat.lt_of_lt_of_le hV.lt hbb10
          have hneb4b10 : b4 < b10 := Nat.lt_of_lt_of_le h4.lt hbb10
          have hneb8b10 : b8 < b10 := Nat.lt_of_lt_of_le h8.lt hbb10
          have hneb9b10 : b9 < b10 := Nat.lt_of_lt_of_le h9.lt hbb10
          replace hF := hF.thenDrew.thenN F12
          replace hB := F12.blkN hB
          replace hK := F12.blkN hK
          replace hT := F12.blkN hT
          replace hV := F12.blkN hV
          replace h4 := F12.blkN h4
          replace h8 := F12.blkN h8
          replace h9 := F12.blkN h9
          refine wl_puta rfl rfl ((by (try exact vlc_cells _); all_goals simp [Value.oneCell', i64c, icv, u64c, u8c, ptr, S])) sz_104 (rfl) h10 ((by simp)) (rfl) (fun w13 h10 F13 => ?_)
          replace hF := hF.thenDrew.thenO F13 (by first | exact .inr (by omega) | exact .inl rfl | exact .inl (by assumption))
          replace hB := F13.blkO hB (by omega)
          replace hK := F13.blkO hK (by omega)
          replace hT := F13.blkO hT (by omega)
          replace hV := F13.blkO hV (by omega)
          replace h4 := F13.blkO h4 (by omega)
          replace h8 := F13.blkO h8 (by omega)
          replace h9 := F13.blkO h9 (by omega)
          refine wl_nil (x_then (hK11 _ _ ?_))
          clear hK11 K11
          refine c_reg ?_ -- region 14 run.go:49
          refine wl (ro_move rfl) ?_
          refine wl (ro_loadAggB rfl ag_104 (by assumption) rfl rfl) ?_
          refine wl_call rfl en_206 (push206 ho' hB hK hs1.2.1 (show s.length < 24 by omega)) ?_
          rintro _ u2 ⟨hB, hK, G2⟩
          replace hF := hF.transG G2 (by intro k hk h; simp only [one, none', es, et, est] at h ⊢ <;> omega)
          replace hT := G2.blkF hT (by intro h; simp only [one, none', es, et, est] at h <;> omega)
          replace hV := G2.blkF hV (by intro h; simp only [one, none', es, et, est] at h <;> omega)
          replace h4 := G2.blkF h4 (by intro h; simp only [one, none', es, et, est] at h <;> omega)
          replace h8 := G2.blkF h8 (by intro h; simp only [one, none', es, et, est] at h <;> omega)
          replace h9 := G2.blkF h9 (by intro h; simp only [one, none', es, et, est] at h <;> omega)
          replace h10 := G2.blkF h10 (by intro h; simp only [one, none', es, et, est] at h <;> omega)
          refine wl_nil (x_blk ?_)
          refine bp_end Tryz.results188 rfl ?_
          refine ⟨?_, hF⟩
          rw [show exI (envF EL) x (y :: u :: s, ts) = (binV x.a u y :: s, ts) by unfold exI; rw [if_neg (by omega), if_neg (by omega), if_neg (by omega), if_pos hdd]]
          exact ⟨_, _, hs2.2.push _ (by omega), hTl, hB, hK, hT⟩
        · try simp only [decide_eq_true_eq, decide_eq_false_iff_not, Bool.not_eq_true', Bool.not_eq_false', Bool.not_eq_eq_eq_not, Bool.not_true, Bool.not_false, beq_iff_eq, bne_iff_ne, ne_eq, beq_eq_false_iff_ne, bne_eq_false_iff_eq, gt_iff_lt, ge_iff_le, Int.not_lt, Int.not_le] at hc46
          refine c_seq (fun K12 hK12 => ?_)
          refine c_reg ?_ -- region 15 run.go:50
          refine wl (ro_cmp rfl rfl rfl) ?_
          refine wl (ro_assign rfl) ?_
          refine wl_nil (x_then (hK12 _ _ ?_))
          clear hK12 K12
          refine wc_cond rfl (fun hc60 => ?_) (fun hc60 => ?_)
          · try simp only [decide_eq_true_eq, decide_eq_false_iff_not, Bool.not_eq_true', Bool.not_eq_false', Bool.not_eq_eq_eq_not, Bool.not_true, Bool.not_false, beq_iff_eq, bne_iff_ne, ne_eq, beq_eq_false_iff_ne, bne_eq_false_iff_eq, gt_iff_lt, ge_iff_le, Int.not_lt, Int.not_le] at hc60
            have hdd : x.d = 5 := by omega
            obtain ⟨y, u, c, s, hz, hv1⟩ := ok5 hok hdd
            have hz' : vs = y :: u :: c :: s := hz
            subst hz'
            have hs1 := hSl.top
            have hs2 := hs1.2.top
            have hs3 := hs2.2.top
            have hs24' : s.length + 2 < 24 := by simp only [List.length_cons] at hs24; omega
            refine c_seq (fun K13 hK13 => ?_)
            refine c_reg ?_ -- region 16 run.go:51
            refine wl (ro_move rfl) ?_
            refine wl_call rfl en_189 (pop189 (top := (u :: c :: s).length) ho' hB hK hSl.1 (by simp only [List.length_cons]; omega) hs1.1) ?_
            rintro _ u1 ⟨rfl, hB, G1⟩
            replace hF := hF.transG G1 (by intro k hk h; simp only [one, none', es, et, est] at h ⊢ <;> omega)
            replace hK := G1.blkF hK (by intro h; simp only [one, none', es, et, est] at h <;> omega)
            replace hT := G1.blkF hT (by intro h; simp only [one, none', es, et, est] at h <;> omega)
            replace hV := G1.blkF hV (by intro h; simp only [one, none', es, et, est] at h <;> omega)
            replace h4 := G1.blkF h4 (by intro h; simp only [one, none', es, et, est] at h <;> omega)
            refine wl_new (ze_104) (fun b11 w14 hbb11 h11 F14 => ?_)
            have hbsb11 := Nat.le_trans hF.size hbb11
            have hneB.eb11 : B.e < b11 := Nat.lt_of_lt_of_le hB.lt hbb11
            have hneB.sb11 : B.s < b11 := Nat.lt_of_lt_of_le hK.lt hbb11
            have hneB.tb11 : B.t < b11 := Nat.lt_of_lt_of_le hT.lt hbb11
            have hnevbb11 : vb < b11 := Nat.lt_of_lt_of_le hV.lt hbb11
            have hneb4b11 : b4 < b11 := Nat.lt_of_lt_of_le h4.lt hbb11
            replace hF := hF.thenDrew.thenN F14
            replace hB := F14.blkN hB
            replace hK := F14.blkN hK
            replace hT := F14.blkN hT
            replace hV := F14.blkN hV
            replace h4 := F14.blkN h4
            refine wl_puta rfl rfl ((by (try exact vlc_cells _); all_goals simp [Value.oneCell', i64c, icv, u64c, u8c, ptr, S])) sz_104 (rfl) h11 ((by simp)) (rfl) (fun w15 h11 F15 => ?_)
            replace hF := hF.thenDrew.thenO F15 (by first | exact .inr (by omega) | exact .inl rfl | exact .inl (by assumption))
            replace hB := F15.blkO hB (by omega)
            replace hK := F15.blkO hK (by omega)
            replace hT := F15.blkO hT (by omega)
            replace hV := F15.blkO hV (by omega)
            replace h4 := F15.blkO h4 (by omega)
            refine wl_nil (x_then (hK13 _ _ ?_))
            clear hK13 K13
            refine forget [(0, _), (11, _)] ⟨rfl, rfl, trivial⟩ (fun e => ?_)
            refine c_seq (fun K14 hK14 => ?_)
            refine c_reg ?_ -- region 17 run.go:52
            refine wl (ro_move rfl) ?_
            refine wl_call rfl en_189 (pop189 (top := (c :: s).length) ho' hB hK hs1.2.1 (by simp only [List.length_cons]; omega) hs2.1) ?_
            rintro _ u2 ⟨rfl, hB, G2⟩
            replace hF := hF.transG G2 (by intro k hk h; simp only [one, none', es, et, est] at h ⊢ <;> omega)
            replace hK := G2.blkF hK (by intro h; simp only [one, none', es, et, est] at h <;> omega)
            replace hT := G2.blkF hT (by intro h; simp only [one, none', es, et, est] at h <;> omega)
            replace hV := G2.blkF hV (by intro h; simp only [one, none', es, et, est] at h <;> omega)
            replace h4 := G2.blkF h4 (by intro h; simp only [one, none', es, et, est] at h <;> omega)
            replace h11 := G2.blkF h11 (by intro h; simp only [one, none', es, et, est] at h <;> omega)
            refine wl_new (ze_104) (fun b12 w16 hbb12 h12 F16 => ?_)
            have hbsb12 := Nat.le_trans hF.size hbb12
            have hneB.eb12 : B.e < b12 := Nat.lt_of_lt_of_le hB.lt hbb12
            have hneB.sb12 : B.s < b12 := Nat.lt_of_lt_of_le hK.lt hbb12
            have hneB.tb12 : B.t < b12 := Nat.lt_of_lt_of_le hT.lt hbb12
            have hnevbb12 : vb < b12 := Nat.lt_of_lt_of_le hV.lt hbb12
            have hneb4b12 : b4 < b12 := Nat.lt_of_lt_of_le h4.lt hbb12
            have hneb11b12 : b11 < b12 := Nat.lt_of_lt_of_le h11.lt hbb12
            replace hF := hF.thenDrew.thenN F16
            replace hB := F16.blkN hB
            replace hK := F16.blkN hK
            replace hT := F16.blkN hT
            replace hV := F16.blkN hV
            replace h4 := F16.blkN h4
            replace h11 := F16.blkN h11
            refine wl_puta rfl rfl ((by (try exact vlc_cells _); all_goals simp [Value.oneCell', i64c, icv, u64c, u8c, ptr, S])) sz_104 (rfl) h12 ((by simp)) (rfl) (fun w17 h12 F17 => ?_)
            replace hF := hF.thenDrew.thenO F17 (by first | exact .inr (by omega) | exact .inl rfl | exact .inl (by assumption))
            replace hB := F17.blkO hB (by omega)
            replace hK := F17.blkO hK (by omega)
            replace hT := F17.blkO hT (by omega)
            replace hV := F17.blkO hV (by omega)
            replace h4 := F17.blkO h4 (by omega)
            replace h11 := F17.blkO h11 (by omega)
            refine wl_nil (x_then (hK14 _ _ ?_))
            clear hK14 K14
            refine forget [(0, _), (11, _), (12, _)] ⟨rfl, rfl, rfl, trivial⟩ (fun e => ?_)
            refine c_seq (fun K15 hK15 => ?_)
            refine c_reg ?_ -- region 18 run.go:53
            refine wl (ro_move rfl) ?_
            refine wl_call rfl en_189 (pop189 (top := s.length) ho' hB hK hs1.2.1 (by omega) hs3.1) ?_
            rintro _ u2 ⟨rfl, hB, G2⟩
            replace hF := hF.transG G2 (by intro k hk h; simp only [one, none', es, et, est] at h ⊢ <;> omega)
            replace hK := G2.blkF hK (by intro h; simp only [one, none', es, et, est] at h <;> omega)
            replace hT := G2.blkF hT (by intro h; simp only [one, none', es, et, est] at h <;> omega)
            replace hV := G2.blkF hV (by intro h; simp only [one, none', es, et, est] at h <;> omega)
            replace h4 := G2.blkF h4 (by intro h; simp only [one, none', es, et, est] at h <;> omega)
            replace h11 := G2.blkF h11 (by intro h; simp only [one, none', es, et, est] at h <;> omega)
            replace h12 := G2.blkF h12 (by intro h; simp only [one, none', es, et, est] at h <;> omega)
            refine wl_new (ze_104) (fun b13 w18 hbb13 h13 F18 => ?_)
            have hbsb13 := Nat.le_trans hF.size hbb13
            have hneB.eb13 : B.e < b13 := Nat.lt_of_lt_of_le hB.lt hbb13
            have hneB.sb13 : B.s < b13 := Nat.lt_of_lt_of_le hK.lt hbb13
            have hneB.tb13 : B.t < b13 := Nat.lt_of_lt_of_le hT.lt hbb13
            have hnevbb13 : vb < b13 := Nat.lt_of_lt_of_le hV.lt hbb13
            have hneb4b13 : b4 < b13 := Nat.lt_of_lt_of_le h4.lt hbb13
            have hneb11b13 : b11 < b13 := Nat.lt_of_lt_of_le h11.lt hbb13
            have hneb12b13 : b12 < b13 := Nat.lt_of_lt_of_le h12.lt hbb13
            replace hF := hF.thenDrew.thenN F18
            replace hB := F18.blkN hB
            replace hK := F18.blkN hK
            replace hT := F18.blkN hT
            replace hV := F18.blkN hV
            replace h4 := F18.blkN h4
            replace h11 := F18.blkN h11
            replace h12 := F18.blkN h12
            refine wl_puta rfl rfl ((by (try exact vlc_cells _); all_goals simp [Value.oneCell', i64c, icv, u64c, u8c, ptr, S])) sz_104 (rfl) h13 ((by simp)) (rfl) (fun w19 h13 F19 => ?_)
            replace hF := hF.thenDrew.thenO F19 (by first | exact .inr (by omega) | exact .inl rfl | exact .inl (by assumption))
            replace hB := F19.blkO hB (by omega)
            replace hK := F19.blkO hK (by omega)
            replace hT := F19.blkO hT (by omega)
            replace hV := F19.blkO hV (by omega)
            replace h4 := F19.blkO h4 (by omega)
            replace h11 := F19.blkO h11 (by omega)
            replace h12 := F19.blkO h12 (by omega)
            refine wl_nil (x_then (hK15 _ _ ?_))
            clear hK15 K15
            refine forget [(0, _), (11, _), (12, _), (13, _)] ⟨rfl, rfl, rfl, rfl, trivial⟩ (fun e => ?_)
            refine c_seq (fun K16 hK16 => ?_)
            refine c_reg ?_ -- region 19 run.go:54
            refine wl (ro_loadAggB rfl ag_104 (by assumption) rfl rfl) ?_
            refine wl (ro_loadAggB rfl ag_104 (by assumption) rfl rfl) ?_
            refine wl (ro_loadAggB rfl ag_104 (by assumption) rfl rfl) ?_
            refine wl_call rfl en_209 (choose209) ?_
            rintro _ w20 ⟨rfl, F20⟩
            replace hF := hF.thenDrew.thenN F20
            replace hB := F20.blkN hB
            replace hK := F20.blkN hK
            replace hT := F20.blkN hT
            replace hV := F20.blkN hV
            replace h4 := F20.blkN h4
            replace h11 := F20.blkN h11
            replace h12 := F20.blkN h12
            replace h13 := F20.blkN h13
            refine wl_new (ze_104) (fun b14 w21 hbb14 h14 F21 => ?_)
            have hbsb14 := Nat.le_trans hF.size hbb14
            have hneB.eb14 : B.e < b14 := Nat.lt_of_lt_of_le hB.lt hbb14
            have hneB.sb14 : B.s < b14 := Nat.lt_of_lt_of_le hK.lt hbb14
            have hneB.tb14 : B.t < b14 := Nat.lt_of_lt_of_le hT.lt hbb14
            have hnevbb14 : vb < b14 := Nat.lt_of_lt_of_le hV.lt hbb14
            have hneb4b14 : b4 < b14 := Nat.lt_of_lt_of_le h4.lt hbb14
            have hneb11b14 : b11 < b14 := Nat.lt_of_lt_of_le h11.lt hbb14
            have hneb12b14 : b12 < b14 := Nat.lt_of_lt_of_le h12.lt hbb14
            have hneb13b14 : b13 < b14 := Nat.lt_of_lt_of_le h13.lt hbb14
            replace hF := hF.thenDrew.thenN F21
            replace hB := F21.blkN hB
            replace hK := F21.blkN hK
            replace hT := F21.blkN hT
            replace hV := F21.blkN hV
            replace h4 := F21.blkN h4
            replace h11 := F21.blkN h11
            replace h12 := F21.blkN h12
            replace h13 := F21.blkN h13
            refine wl_puta rfl rfl ((by (try exact vlc_cells _); all_goals simp [Value.oneCell', i64c, icv, u64c, u8c, ptr, S])) sz_104 (rfl) h14 ((by simp)) (rfl) (fun w22 h14 F22 => ?_)
            replace hF := hF.thenDrew.thenO F22 (by first | exact .inr (by omega) | exact .inl rfl | exact .inl (by assumption))
            replace hB := F22.blkO hB (by omega)
            replace hK := F22.blkO hK (by omega)
            replace hT := F22.blkO hT (by omega)
            replace hV := F22.blkO hV (by omega)
            replace h4 := F22.blkO h4 (by omega)
            replace h11 := F22.blkO h11 (by omega)
            replace h12 := F22.blkO h12 (by omega)
            replace h13 := F22.blkO h13 (by omega)
            refine wl_nil (x_then (hK16 _ _ ?_))
            clear hK16 K16
            refine c_reg ?_ -- region 20 run.go:55
            refine wl (ro_move rfl) ?_
            refine wl (ro_loadAggB rfl ag_104 (by assumption) rfl rfl) ?_
            refine wl_call rfl en_206 (push206 ho' hB hK hs1.2.1 (show s.length < 24 by omega)) ?_
            rintro _ u2 ⟨hB, hK, G2⟩
            replace hF := hF.transG G2 (by intro k hk h; simp only [one, none', es, et, est] at h ⊢ <;> omega)
            replace hT := G2.blkF hT (by intro h; simp only [one, none', es, et, est] at h <;> omega)
            replace hV := G2.blkF hV (by intro h; simp only [one, none', es, et, est] at h <;> omega)
            replace h4 := G2.blkF h4 (by intro h; simp only [one, none', es, et, est] at h <;> omega)
            replace h11 := G2.blkF h11 (by intro h; simp only [one, none', es, et, est] at h <;> omega)
            replace h12 := G2.blkF h12 (by intro h; simp only [one, none', es, et, est] at h <;> omega)
            replace h13 := G2.blkF h13 (by intro h; simp only [one, none', es, et, est] at h <;> omega)
            replace h14 := G2.blkF h14 (by intro h; simp only [one, none', es, et, est] at h <;> omega)
            refine wl_nil (x_blk ?_)
            refine bp_end Tryz.results188 rfl ?_
            refine ⟨?_, hF⟩
            rw [show exI (envF EL) x (y :: u :: c :: s, ts) = (chV c u y :: s, ts) by unfold exI; rw [if_neg (by omega), if_neg (by omega), if_neg (by omega), if_neg (by omega), if_pos hdd]]
            exact ⟨_, _, hs3.2.push _ (by omega), hTl, hB, hK, hT⟩
          · try simp only [decide_eq_true_eq, decide_eq_false_iff_not, Bool.not_eq_true', Bool.not_eq_false', Bool.not_eq_eq_eq_not, Bool.not_true, Bool.not_false, beq_iff_eq, bne_iff_ne, ne_eq, beq_eq_false_iff_ne, bne_eq_false_iff_eq, gt_iff_lt, ge_iff_le, Int.not_lt, Int.not_le] at hc60
            refine c_seq (fun K17 hK17 => ?_)
            refine c_reg ?_ -- region 21 run.go:56
            refine wl (ro_cmp rfl rfl rfl) ?_
            refine wl (ro_assign rfl) ?_
            refine wl_nil (x_then (hK17 _ _ ?_))
            clear hK17 K17
            refine wc_cond rfl (fun hc75 => ?_) (fun hc75 => ?_)
            · try simp only [decide_eq_true_eq, decide_eq_false_iff_not, Bool.not_eq_true', Bool.not_eq_false', Bool.not_eq_eq_eq_not, Bool.not_true, Bool.not_false, beq_iff_eq, bne_iff_ne, ne_eq, beq_eq_false_iff_ne, bne_eq_false_iff_eq, gt_iff_lt, ge_iff_le, Int.not_lt, Int.not_le] at hc75
              have hdd : x.d = 6 := by omega
              have k1 : ts.length < 24 := ok6 hok hdd
              refine c_seq (fun K18 hK18 => ?_)
              refine c_piL 10 [(0, false), (1, false), (2, false), (3, false), (4, false), (5, false), (6, false), (7, false), (8, false), (9, false)] (SameH _) mixed (by kernel_rfl) rfl (by kernel_rfl) (po_then (po_blk (po_bp))) (sameH_now _ _) ?_ -- region 22 run.go:57
              refine ql_ro rfl (fun w hS => ro_move rfl) ?_
              refine ql_ro rfl (fun w hS => ro_nilCheck rfl) ?_
              refine ql_ro rfl (fun w hS => ro_fieldAddr (k := 7) rfl fo_89_7) ?_
              refine ql_ro rfl (fun w hS => ro_loadB rfl sc_87 (Blk.of_heap (by assumption) hS) rfl) ?_
              refine ql_ro rfl (fun w hS => ro_move rfl) ?_
              refine ql_ro rfl (fun w hS => ro_nilCheck rfl) ?_
              refine ql_ro rfl (fun w hS => ro_fieldAddr (k := 8) rfl fo_89_8) ?_
              refine ql_ro rfl (fun w hS => ro_loadB rfl sc_3 (Blk.of_heap (by assumption) hS) rfl) ?_
              refine ql_ro rfl (fun w hS => ro_build rfl bld_228) ?_
              refine ql_ro rfl (fun w hS => ro_indexAddr (et := 228) (k := 5) rfl rfl se_87 rfl (by omega)) ?_
              refine ql_puta rfl rfl rfl ((tyc_cells tyZ)) sz_228 (rfl) hT ((rw_fit tyc_len (i := ts.length) (j := 0) (by rw [hTl.1]; exact k1) (by omega) (by omega))) ((rw_puta tyc_len (i := ts.length) (x' := tyZ) (by rw [hTl.1]; exact k1) (by omega))) (fun w23 hT F23 => ?_)
              replace hF := hF.thenDrew.thenO F23 (by first | exact .inr (by omega) | exact .inl rfl | exact .inl (by assumption))
              replace hB := F23.blkO hB (by omega)
              replace hK := F23.blkO hK (by omega)
              replace hV := F23.blkO hV (by omega)
              replace h4 := F23.blkO h4 (by omega)
              refine x_then (hK18 _ _ ?_)
              clear hK18 K18
              refine c_reg ?_ -- region 23 run.go:58
              refine wl (ro_move rfl) ?_
              refine wl (ro_nilCheck rfl) ?_
              refine wl (ro_fieldAddr (k := 8) rfl fo_89_8) ?_
              refine wl (ro_loadB rfl sc_3 (by assumption) rfl) ?_
              refine wl (ro_arith (r := ((ts.length + 1 : Nat) : Int)) rfl rfl rfl (Go.IntWalk.i64_in _ (by omega))) ?_
              refine wl (ro_nilCheck rfl) ?_
              refine wl (ro_fieldAddr (k := 8) rfl fo_89_8) ?_
              refine wl_put rfl rfl rfl sz_3 hB ((by simp)) ((show _ = evs B st cl vs.length (ts.length + 1) from rfl)) (fun w24 hB F24 => ?_)
              replace hF := hF.thenDrew.thenO F24 (by first | exact .inr (by omega) | exact .inl rfl | exact .inl (by assumption))
              replace hK := F24.blkO hK (by omega)
              replace hT := F24.blkO hT (by omega)
              replace hV := F24.blkO hV (by omega)
              replace h4 := F24.blkO h4 (by omega)
              refine wl_nil (x_blk ?_)
              refine bp_end Tryz.results188 rfl ?_
              refine ⟨?_, hF⟩
              rw [show exI (envF EL) x (vs, ts) = (vs, tyZ :: ts) by unfold exI; rw [if_neg (by omega), if_neg (by omega), if_neg (by omega), if_neg (by omega), if_neg (by omega), if_pos hdd]]
              exact ⟨_, _, hSl, hTl.push tyZ k1, hB, hK, hT⟩
            · try simp only [decide_eq_true_eq, decide_eq_false_iff_not, Bool.not_eq_true', Bool.not_eq_false', Bool.not_eq_eq_eq_not, Bool.not_true, Bool.not_false, beq_iff_eq, bne_iff_ne, ne_eq, beq_eq_false_iff_ne, bne_eq_false_iff_eq, gt_iff_lt, ge_iff_le, Int.not_lt, Int.not_le] at hc75
              refine c_seq (fun K19 hK19 => ?_)
              refine c_reg ?_ -- region 24 run.go:59
              refine wl (ro_cmp rfl rfl rfl) ?_
              refine wl (ro_assign rfl) ?_
              refine wl_nil (x_then (hK19 _ _ ?_))
              clear hK19 K19
              refine wc_cond rfl (fun hc94 => ?_) (fun hc94 => ?_)
              · try simp only [decide_eq_true_eq, decide_eq_false_iff_not, Bool.not_eq_true', Bool.not_eq_false', Bool.not_eq_eq_eq_not, Bool.not_true, Bool.not_false, beq_iff_eq, bne_iff_ne, ne_eq, beq_eq_false_iff_ne, bne_eq_false_iff_eq, gt_iff_lt, ge_iff_le, Int.not_lt, Int.not_le] at hc94
                have hdd : x.d = 7 := by omega
                obtain ⟨v, s, t, r, hz, hy, hv1, hv2⟩ := ok7 hok hdd
                have hz' : vs = v :: s := hz
                have hy' : ts = t :: r := hy
                subst hz'
                subst hy'
                have hs1 := hSl.top
                have ht1 := hTl.top
                have hs24' : s.length < 24 := by simp only [List.length_cons] at hs24; omega
                have hr24 : r.length < 24 := by simp only [List.length_cons] at ht24; omega
                refine c_seq (fun K20 hK20 => ?_)
                refine c_reg ?_ -- region 25 run.go:60
                refine wl (ro_move rfl) ?_
                refine wl_call rfl en_189 (pop189 (top := s.length) ho' hB hK hSl.1 (by omega) hs1.1) ?_
                rintro _ u1 ⟨rfl, hB, G1⟩
                replace hF := hF.transG G1 (by intro k hk h; simp only [one, none', es, et, est] at h ⊢ <;> omega)
                replace hK := G1.blkF hK (by intro h; simp only [one, none', es, et, est] at h <;> omega)
                replace hT := G1.blkF hT (by intro h; simp only [one, none', es, et, est] at h <;> omega)
                replace hV := G1.blkF hV (by intro h; simp only [one, none', es, et, est] at h <;> omega)
                replace h4 := G1.blkF h4 (by intro h; simp only [one, none', es, et, est] at h <;> omega)
                refine wl_new (ze_104) (fun b15 w25 hbb15 h15 F25 => ?_)
                have hbsb15 := Nat.le_trans hF.size hbb15
                have hneB.eb15 : B.e < b15 := Nat.lt_of_lt_of_le hB.lt hbb15
                have hneB.sb15 : B.s < b15 := Nat.lt_of_lt_of_le hK.lt hbb15
                have hneB.tb15 : B.t < b15 := Nat.lt_of_lt_of_le hT.lt hbb15
                have hnevbb15 : vb < b15 := Nat.lt_of_lt_of_le hV.lt hbb15
                have hneb4b15 : b4 < b15 := Nat.lt_of_lt_of_le h4.lt hbb15
                replace hF := hF.thenDrew.thenN F25
                replace hB := F25.blkN hB
                replace hK := F25.blkN hK
                replace hT := F25.blkN hT
                replace hV := F25.blkN hV
                replace h4 := F25.blkN h4
                refine wl_puta rfl rfl ((by (try exact vlc_cells _); all_goals simp [Value.oneCell', i64c, icv, u64c, u8c, ptr, S])) sz_104 (rfl) h15 ((by simp)) (rfl) (fun w26 h15 F26 => ?_)
                replace hF := hF.thenDrew.thenO F26 (by first | exact .inr (by omega) | exact .inl rfl | exact .inl (by assumption))
                replace hB := F26.blkO hB (by omega)
                replace hK := F26.blkO hK (by omega)
                replace hT := F26.blkO hT (by omega)
                replace hV := F26.blkO hV (by omega)
                replace h4 := F26.blkO h4 (by omega)
                refine wl_nil (x_then (hK20 _ _ ?_))
                clear hK20 K20
                refine c_reg ?_ -- region 26 run.go:61
                refine wl (ro_move rfl) ?_
                refine wl (ro_fieldAddr (k := 1) rfl fo_213_1) ?_
                refine wl (ro_loadB rfl sc_3 (by assumption) rfl) ?_
                refine wl (ro_loadAggB rfl ag_104 (by assumption) rfl rfl) ?_
                refine wl_call rfl en_210 (take210 (d := r.length) ho' hB hT hTl.1 ht1.1 hv1 (hv2.up (by omega))) ?_
                rintro _ u2 ⟨hT, G2⟩
                replace hF := hF.transG G2 (by intro k hk h; simp only [one, none', es, et, est] at h ⊢ <;> omega)
                replace hB := G2.blkF hB (by intro h; simp only [one, none', es, et, est] at h <;> omega)
                replace hK := G2.blkF hK (by intro h; simp only [one, none', es, et, est] at h <;> omega)
                replace hV := G2.blkF hV (by intro h; simp only [one, none', es, et, est] at h <;> omega)
                replace h4 := G2.blkF h4 (by intro h; simp only [one, none', es, et, est] at h <;> omega)
                replace h15 := G2.blkF h15 (by intro h; simp only [one, none', es, et, est] at h <;> omega)
                refine wl_nil (x_blk ?_)
                refine bp_end Tryz.results188 rfl ?_
                refine ⟨?_, hF⟩
                rw [show exI (envF EL) x (v :: s, t :: r) = (s, takeT x.a v false t :: r) by unfold exI; rw [if_neg (by omega), if_neg (by omega), if_neg (by omega), if_neg (by omega), if_neg (by omega), if_neg (by omega), if_pos hdd]]
                exact ⟨_, _, hs1.2, ht1.2.push _ hr24, hB, hK, hT⟩
              · try simp only [decide_eq_true_eq, decide_eq_false_iff_not, Bool.not_eq_true', Bool.not_eq_false', Bool.not_eq_eq_eq_not, Bool.not_true, Bool.not_false, beq_iff_eq, bne_iff_ne, ne_eq, beq_eq_false_iff_ne, bne_eq_false_iff_eq, gt_iff_lt, ge_iff_le, Int.not_lt, Int.not_le] at hc94
                refine c_seq (fun K21 hK21 => ?_)
                refine c_reg ?_ -- region 27 run.go:62
                refine wl (ro_cmp rfl rfl rfl) ?_
                refine wl (ro_assign rfl) ?_
                refine wl_nil (x_then (hK21 _ _ ?_))
                clear hK21 K21
                refine wc_cond rfl (fun hc103 => ?_) (fun hc103 => ?_)
                · try simp only [decide_eq_true_eq, decide_eq_false_iff_not, Bool.not_eq_true', Bool.not_eq_false', Bool.not_eq_eq_eq_not, Bool.not_true, Bool.not_false, beq_iff_eq, bne_iff_ne, ne_eq, beq_eq_false_iff_ne, bne_eq_false_iff_eq, gt_iff_lt, ge_iff_le, Int.not_lt, Int.not_le] at hc103
                  have hdd : x.d = 8 := by omega
                  obtain ⟨k1, t, r, hy, hv2⟩ := ok8 hok hdd
                  have hy' : ts = t :: r := hy
                  subst hy'
                  have ht1 := hTl.top
                  have hr24 : r.length < 24 := by simp only [List.length_cons] at ht24; omega
                  refine c_reg ?_ -- region 28 run.go:63
                  refine wl (ro_move rfl) ?_
                  refine wl (ro_fieldAddr (k := 1) rfl fo_213_1) ?_
                  refine wl (ro_loadB rfl sc_3 (by assumption) rfl) ?_
                  refine wl (ro_fieldAddr (k := 5) rfl fo_213_3) ?_
                  refine wl (ro_loadB rfl sc_85 (by assumption) rfl) ?_
                  refine wl (ro_move rfl) ?_
                  refine wl_call rfl en_211 (sweep211 (d := r.length) ho' hv hB hT hV hTl.1 hel ht1.1 hL hv2 k1) ?_
                  rintro _ u2 ⟨hT, G2⟩
                  replace hF := hF.transG G2 (by intro k hk h; simp only [one, none', es, et, est] at h ⊢ <;> omega)
                  replace hB := G2.blkF hB (by intro h; simp only [one, none', es, et, est] at h <;> omega)
                  replace hK := G2.blkF hK (by intro h; simp only [one, none', es, et, est] at h <;> omega)
                  replace hV := G2.blkF hV (by intro h; simp only [one, none', es, et, est] at h <;> omega)
                  replace h4 := G2.blkF h4 (by intro h; simp only [one, none', es, et, est] at h <;> omega)
                  refine wl_nil (x_blk ?_)
                  refine bp_end Tryz.results188 rfl ?_
                  refine ⟨?_, hF⟩
                  rw [show exI (envF EL) x (vs, t :: r) = (vs, sweepT x.a x.m (envF EL) 24 0 t :: r) by unfold exI; rw [if_neg (by omega), if_neg (by omega), if_neg (by omega), if_neg (by omega), if_neg (by omega), if_neg (by omega), if_neg (by omega), if_pos hdd]]
                  exact ⟨_, _, hSl, ht1.2.push _ hr24, hB, hK, hT⟩
                · try simp only [decide_eq_true_eq, decide_eq_false_iff_not, Bool.not_eq_true', Bool.not_eq_false', Bool.not_eq_eq_eq_not, Bool.not_true, Bool.not_false, beq_iff_eq, bne_iff_ne, ne_eq, beq_eq_false_iff_ne, bne_eq_false_iff_eq, gt_iff_lt, ge_iff_le, Int.not_lt, Int.not_le] at hc103
                  refine c_seq (fun K22 hK22 => ?_)
                  refine c_reg ?_ -- region 29 run.go:64
                  refine wl (ro_cmp rfl rfl rfl) ?_
                  refine wl (ro_assign rfl) ?_
                  refine wl_nil (x_then (hK22 _ _ ?_))
                  clear hK22 K22
                  refine wc_cond rfl (fun hc112 => ?_) (fun hc112 => ?_)
                  · try simp only [decide_eq_true_eq, decide_eq_false_iff_not, Bool.not_eq_true', Bool.not_eq_false', Bool.not_eq_eq_eq_not, Bool.not_true, Bool.not_false, beq_iff_eq, bne_iff_ne, ne_eq, beq_eq_false_iff_ne, bne_eq_false_iff_eq, gt_iff_lt, ge_iff_le, Int.not_lt, Int.not_le] at hc112
                    have hdd : x.d = 9 := by omega
                    obtain ⟨t, r, hy, hv2⟩ := ok9 hok hdd
                    have hy' : ts = t :: r := hy
                    subst hy'
                    have ht1 := hTl.top
                    have hr24 : r.length < 24 := by simp only [List.length_cons] at ht24; omega
                    refine c_seq (fun K23 hK23 => ?_)
                    refine c_reg ?_ -- region 30 run.go:65
                    refine wl_call rfl en_116 (Err116) ?_
                    rintro _ w27 ⟨rfl, F27⟩
                    replace hF := hF.thenDrew.thenN F27
                    replace hB := F27.blkN hB
                    replace hK := F27.blkN hK
                    replace hT := F27.blkN hT
                    replace hV := F27.blkN hV
                    replace h4 := F27.blkN h4
                    refine wl_new (ze_104) (fun b16 w28 hbb16 h16 F28 => ?_)
                    have hbsb16 := Nat.le_trans hF.size hbb16
                    have hneB.eb16 : B.e < b16 := Nat.lt_of_lt_of_le hB.lt hbb16
                    have hneB.sb16 : B.s < b16 := Nat.lt_of_lt_of_le hK.lt hbb16
                    have hneB.tb16 : B.t < b16 := Nat.lt_of_lt_of_le hT.lt hbb16
                    have hnevbb16 : vb < b16 := Nat.lt_of_lt_of_le hV.lt hbb16
                    have hneb4b16 : b4 < b16 := Nat.lt_of_lt_of_le h4.lt hbb16
                    replace hF := hF.thenDrew.thenN F28
                    replace hB := F28.blkN hB
                    replace hK := F28.blkN hK
                    replace hT := F28.blkN hT
                    replace hV := F28.blkN hV
                    replace h4 := F28.blkN h4
                    refine wl_puta rfl rfl ((by (try exact vlc_cells _); all_goals simp [Value.oneCell', i64c, icv, u64c, u8c, ptr, S])) sz_104 (rfl) h16 ((by simp)) (rfl) (fun w29 h16 F29 => ?_)
                    replace hF := hF.thenDrew.thenO F29 (by first | exact .inr (by omega) | exact .inl rfl | exact .inl (by assumption))
                    replace hB := F29.blkO hB (by omega)
                    replace hK := F29.blkO hK (by omega)
                    replace hT := F29.blkO hT (by omega)
                    replace hV := F29.blkO hV (by omega)
                    replace h4 := F29.blkO h4 (by omega)
                    refine wl_nil (x_then (hK23 _ _ ?_))
                    clear hK23 K23
                    refine c_reg ?_ -- region 31 run.go:66
                    refine wl (ro_move rfl) ?_
                    refine wl (ro_fieldAddr (k := 1) rfl fo_213_1) ?_
                    refine wl (ro_loadB rfl sc_3 (by assumption) rfl) ?_
                    refine wl (ro_loadAggB rfl ag_104 (by assumption) rfl rfl) ?_
                    refine wl_call rfl en_210 (take210 (d := r.length) ho' hB hT hTl.1 ht1.1 (Lw.e (by omega) (by omega)) (hv2.up (by omega))) ?_
                    rintro _ u2 ⟨hT, G2⟩
                    replace hF := hF.transG G2 (by intro k hk h; simp only [one, none', es, et, est] at h ⊢ <;> omega)
                    replace hB := G2.blkF hB (by intro h; simp only [one, none', es, et, est] at h <;> omega)
                    replace hK := G2.blkF hK (by intro h; simp only [one, none', es, et, est] at h <;> omega)
                    replace hV := G2.blkF hV (by intro h; simp only [one, none', es, et, est] at h <;> omega)
                    replace h4 := G2.blkF h4 (by intro h; simp only [one, none', es, et, est] at h <;> omega)
                    replace h16 := G2.blkF h16 (by intro h; simp only [one, none', es, et, est] at h <;> omega)
                    refine wl_nil (x_blk ?_)
                    refine bp_end Tryz.results188 rfl ?_
                    refine ⟨?_, hF⟩
                    rw [show exI (envF EL) x (vs, t :: r) = (vs, takeT x.a (vE 2) true t :: r) by unfold exI; rw [if_neg (by omega), if_neg (by omega), if_neg (by omega), if_neg (by omega), if_neg (by omega), if_neg (by omega), if_neg (by omega), if_neg (by omega), if_pos hdd]]
                    exact ⟨_, _, hSl, ht1.2.push _ hr24, hB, hK, hT⟩
                  · try simp only [decide_eq_true_eq, decide_eq_false_iff_not, Bool.not_eq_true', Bool.not_eq_false', Bool.not_eq_eq_eq_not, Bool.not_true, Bool.not_false, beq_iff_eq, bne_iff_ne, ne_eq, beq_eq_false_iff_ne, bne_eq_false_iff_eq, gt_iff_lt, ge_iff_le, Int.not_lt, Int.not_le] at hc112
                    refine c_seq (fun K24 hK24 => ?_)
                    refine c_reg ?_ -- region 32 run.go:67
                    refine wl (ro_cmp rfl rfl rfl) ?_
                    refine wl (ro_assign rfl) ?_
                    refine wl_nil (x_then (hK24 _ _ ?_))
                    clear hK24 K24
                    refine wc_cond rfl (fun hc120 => ?_) (fun hc120 => ?_)
                    · try simp only [decide_eq_true_eq, decide_eq_false_iff_not, Bool.not_eq_true', Bool.not_eq_false', Bool.not_eq_eq_eq_not, Bool.not_true, Bool.not_false, beq_iff_eq, bne_iff_ne, ne_eq, beq_eq_false_iff_ne, bne_eq_false_iff_eq, gt_iff_lt, ge_iff_le, Int.not_lt, Int.not_le] at hc120
                      have hdd : x.d = 10 := by omega
                      obtain ⟨k1, t, r, hy, hv2⟩ := ok10 hok hdd
                      have hy' : ts = t :: r := hy
                      subst hy'
                      have ht1 := hTl.top
                      refine c_seq (fun K25 hK25 => ?_)
                      refine c_reg ?_ -- region 33 run.go:68
                      refine wl (ro_move rfl) ?_
                      refine wl (ro_fieldAddr (k := 1) rfl fo_213_1) ?_
                      refine wl (ro_loadB rfl sc_3 (by assumption) rfl) ?_
                      refine wl_call rfl en_212 (shut212 (d := r.length) ho' hB hT hTl.1 ht1.1 (hv2.up (by omega))) ?_
                      rintro _ u2 ⟨rfl, hB, G2⟩
                      replace hF := hF.transG G2 (by intro k hk h; simp only [one, none', es, et, est] at h ⊢ <;> omega)
                      replace hK := G2.blkF hK (by intro h; simp only [one, none', es, et, est] at h <;> omega)
                      replace hT := G2.blkF hT (by intro h; simp only [one, none', es, et, est] at h <;> omega)
                      replace hV := G2.blkF hV (by intro h; simp only [one, none', es, et, est] at h <;> omega)
                      replace h4 := G2.blkF h4 (by intro h; simp only [one, none', es, et, est] at h <;> omega)
                      refine wl_new (ze_104) (fun b17 w30 hbb17 h17 F30 => ?_)
                      have hbsb17 := Nat.le_trans hF.size hbb17
                      have hneB.eb17 : B.e < b17 := Nat.lt_of_lt_of_le hB.lt hbb17
                      have hneB.sb17 : B.s < b17 := Nat.lt_of_lt_of_le hK.lt hbb17
                      have hneB.tb17 : B.t < b17 := Nat.lt_of_lt_of_le hT.lt hbb17
                      have hnevbb17 : vb < b17 := Nat.lt_of_lt_of_le hV.lt hbb17
                      have hneb4b17 : b4 < b17 := Nat.lt_of_lt_of_le h4.lt hbb17
                      replace hF := hF.thenDrew.thenN F30
                      replace hB := F30.blkN hB
                      replace hK := F30.blkN hK
                      replace hT := F30.blkN hT
                      replace hV := F30.blkN hV
                      replace h4 := F30.blkN h4
                      refine wl_puta rfl rfl ((by (try exact vlc_cells _); all_goals simp [Value.oneCell', i64c, icv, u64c, u8c, ptr, S])) sz_104 (rfl) h17 ((by simp)) (rfl) (fun w31 h17 F31 => ?_)
                      replace hF := hF.thenDrew.thenO F31 (by first | exact .inr (by omega) | exact .inl rfl | exact .inl (by assumption))
                      replace hB := F31.blkO hB (by omega)
                      replace hK := F31.blkO hK (by omega)
                      replace hT := F31.blkO hT (by omega)
                      replace hV := F31.blkO hV (by omega)
                      replace h4 := F31.blkO h4 (by omega)
                      refine wl_nil (x_then (hK25 _ _ ?_))
                      clear hK25 K25
                      refine c_reg ?_ -- region 34 run.go:69
                      refine wl (ro_move rfl) ?_
                      refine wl (ro_loadAggB rfl ag_104 (by assumption) rfl rfl) ?_
                      refine wl_call rfl en_206 (push206 ho' hB hK hSl.1 k1) ?_
                      rintro _ u2 ⟨hB, hK, G2⟩
                      replace hF := hF.transG G2 (by intro k hk h; simp only [one, none', es, et, est] at h ⊢ <;> omega)
                      replace hT := G2.blkF hT (by intro h; simp only [one, none', es, et, est] at h <;> omega)
                      replace hV := G2.blkF hV (by intro h; simp only [one, none', es, et, est] at h <;> omega)
                      replace h4 := G2.blkF h4 (by intro h; simp only [one, none', es, et, est] at h <;> omega)
                      replace h17 := G2.blkF h17 (by intro h; simp only [one, none', es, et, est] at h <;> omega)
                      refine wl_nil (x_blk ?_)
                      refine bp_end Tryz.results188 rfl ?_
                      refine ⟨?_, hF⟩
                      rw [show exI (envF EL) x (vs, t :: r) = (shutT x.a t :: vs, r) by unfold exI; rw [if_neg (by omega), if_neg (by omega), if_neg (by omega), if_neg (by omega), if_neg (by omega), if_neg (by omega), if_neg (by omega), if_neg (by omega), if_neg (by omega), if_pos hdd]]
                      exact ⟨_, _, hSl.push _ k1, ht1.2, hB, hK, hT⟩
                    · try simp only [decide_eq_true_eq, decide_eq_false_iff_not, Bool.not_eq_true', Bool.not_eq_false', Bool.not_eq_eq_eq_not, Bool.not_true, Bool.not_false, beq_iff_eq, bne_iff_ne, ne_eq, beq_eq_false_iff_ne, bne_eq_false_iff_eq, gt_iff_lt, ge_iff_le, Int.not_lt, Int.not_le] at hc120
                      refine c_skip (x_blk ?_)
                      refine bp_end Tryz.results188 rfl ?_
                      exfalso; omega

theorem VM.far {w w' : World} {B : EB} {st cl : Nat} {z : List Vl × List Ty} {G : Nat → Prop} (h : VM w B st cl z) (F : Fram G w w') (h1 : ¬ G B.e) (h2 : ¬ G B.s) (h3 : ¬ G B.t) : VM w' B st cl z := by
  obtain ⟨SL, TL, a, b, c, d, e⟩ := h
  exact ⟨SL, TL, a, b, F.blkF c h1, F.blkF d h2, F.blkF e h3⟩

set_option maxHeartbeats 4000000 in
theorem run144 {w : World} {B : EB} {st cl vb : Nat} {CL : List In} {EL : List Vl} {W : Vl} (ho : EBo B) (hv : B.t < vb) (hM : VM w B st cl ([], [])) (hC : Blk w.heap B.c (rws inc CL) 213) (hcl : CL.length = 48) (hst : st ≤ 48) (hV : Blk w.heap vb (rws vlc EL) 104) (hel : EL.length = 24) (hL : ∀ c, c < 24 → Lw (envF EL c))
    (hsafe : safeC (envF EL) (CL.drop st) ([], [])) (hex : exC (envF EL) (CL.drop st) ([], []) = ([W], [])) :
    Ret Tryz.prog 144 [ptr B.e, sl vb 24] w (fun v w' => v = vlA W ∧ VM w' B 48 cl ([], []) ∧ Blk w'.heap B.c (rws inc CL) 213 ∧ Fram (est B) w w') := by
  have hF : Fram (est B) w w := Fram.refl _ _
  have hm1 : est B B.e := .inl rfl
  have ho' := ho
  unfold EBo at ho
  have hb0 : Blk w.heap B.e (evs B st cl 0 0) 89 := by obtain ⟨SL, TL, a, b, c, d, e⟩ := hM; exact c
  refine ret_of Tryz.func144 rfl Tryz.ntmps144 rfl ?_
  refine c_seq (fun K1 hK1 => ?_)
  refine c_reg ?_ -- region 0 run.go:25
  refine wl_new (ze_104) (fun b4 w1 hbb4 h4 F1 => ?_)
  have hbsb4 := Nat.le_trans hF.size hbb4
  have hneB.cb4 : B.c < b4 := Nat.lt_of_lt_of_le hC.lt hbb4
  have hnevbb4 : vb < b4 := Nat.lt_of_lt_of_le hV.lt hbb4
  have hneB.eb4 : B.e < b4 := Nat.lt_of_lt_of_le hb0.lt hbb4
  replace hF := hF.thenDrew.thenN F1
  replace hC := F1.blkN hC
  replace hV := F1.blkN hV
  replace hb0 := F1.blkN hb0
  have hM4 := hM.far F1 (fun h ↦ h) (fun h ↦ h) (fun h ↦ h)
  refine wl_nil (x_then (hK1 _ _ ?_))
  clear hK1 K1
  refine c_seq (fun K2 hK2 => ?_)
  refine c_seq (fun K3 hK3 => ?_)
  refine c_reg ?_ -- region 1 run.go:26
  refine wl (ro_move rfl) ?_
  refine wl (ro_nilCheck rfl) ?_
  refine wl (ro_fieldAddr (k := 2) rfl fo_89_2) ?_
  refine wl (ro_loadB rfl sc_3 (by assumption) rfl) ?_
  refine wl (ro_assign rfl) ?_
  refine wl_nil (x_then (hK3 _ _ ?_))
  clear hK3 K3
  refine c_block ?_
  -- loop@r2: live slots [0, 1, 4, 5]
  refine c_loopG (fun m a' w' => ∃ k z, m = 48 - (st + k) ∧ st + k ≤ 48 ∧ VM w' B st cl z ∧ safeC (envF EL) (CL.drop (st + k)) z ∧ exC (envF EL) (CL.drop (st + k)) z = ([W], []) ∧ Blk w'.heap B.c (rws inc CL) 213 ∧ Blk w'.heap vb (rws vlc EL) 104 ∧ Blk w'.heap b4 [icv 0, icv 0, S []] 104 ∧ Fram (est B) w w' ∧ ∃ e, a' = Fr 41 (upds e [(0, ptr B.e), (1, sl vb 24), (4, ptr b4), (5, i64c (st + k))]) []) (48 - st) ⟨0, _, rfl, by omega, hM4, hsafe, hex, hC, hV, h4, hF, kp _ ⟨rfl, rfl, rfl, rfl, trivial⟩⟩ ?_
  clear hF hC hV h4 hM4 hsafe hex hb0 hM
  rintro m a' u2 ⟨k, z, rfl, hk, hM, hsafe, hex, hC, hV, h4, hF, e, rfl⟩
  have hMc := hM
  obtain ⟨SL, TL, hSl, hTl, hB, hK, hT⟩ := hMc
  have hbs4 : B.e < b4 ∧ B.c < b4 ∧ B.s < b4 ∧ B.t < b4 ∧ vb < b4 := by omega
  refine c_seq (fun K4 hK4 => ?_)
  refine c_seq (fun K5 hK5 => ?_)
  refine c_reg ?_ -- region 2 run.go:26
  refine wl (ro_move rfl) ?_
  refine wl (ro_move rfl) ?_
  refine wl (ro_nilCheck rfl) ?_
  refine wl (ro_fieldAddr (k := 1) rfl fo_89_1) ?_
  refine wl (ro_loadB rfl sc_84 (by assumption) rfl) ?_
  refine wl (ro_lenL rfl se_84) ?_
  refine wl (ro_cmp (r := decide (st + k < 48)) rfl rfl (congrArg some (decide_eq_decide.2 (by omega)))) ?_
  refine wl_nil (x_then (hK5 _ _ ?_))
  clear hK5 K5
  refine wc_cond rfl (fun hc17 => ?_) (fun hc17 => ?_)
  · try simp only [decide_eq_true_eq, decide_eq_false_iff_not, Bool.not_eq_true', Bool.not_eq_false', Bool.not_eq_eq_eq_not, Bool.not_true, Bool.not_false, beq_iff_eq, bne_iff_ne, ne_eq, beq_eq_false_iff_ne, bne_eq_false_iff_eq, gt_iff_lt, ge_iff_le, Int.not_lt, Int.not_le] at hc17
    obtain ⟨x, hx⟩ : ∃ x, CL[st + k]? = some x := ⟨_, List.getElem?_eq_getElem (by omega)⟩
    have hdr : CL.drop (st + k) = x :: CL.drop (st + k + 1) := by
      obtain ⟨h1, h2⟩ := List.getElem?_eq_some_iff.1 hx
      rw [List.drop_eq_getElem_cons h1, h2]
    rw [hdr] at hsafe hex
    obtain ⟨⟨hok, hxa, hxm⟩, hsafe⟩ := hsafe
    refine c_skip (x_then (hK4 _ _ ?_))
    clear hK4 K4
    refine forget [(0, _), (1, _), (4, _), (5, _)] ⟨rfl, rfl, rfl, rfl, trivial⟩ (fun e => ?_)
    refine c_seq (fun K6 hK6 => ?_)
    refine c_block ?_
    refine c_seq (fun K7 hK7 => ?_)
    refine c_reg ?_ -- region 4 run.go:27
    refine wl (ro_move rfl) ?_
    refine wl (ro_nilCheck rfl) ?_
    refine wl (ro_fieldAddr (k := 1) rfl fo_89_1) ?_
    refine wl (ro_loadB rfl sc_84 (by assumption) rfl) ?_
    refine wl (ro_move rfl) ?_
    refine wl (ro_indexAddr (et := 213) (k := 6) rfl rfl se_84 rfl (by omega)) ?_
    refine wl (ro_loadAggB rfl ag_213 (hC) ((inc_len _)) ((rw_agg inc_len hx (by omega)))) ?_
    refine wl_new (ze_213) (fun b6 w2 hbb6 h6 F2 => ?_)
    have hbsb6 := Nat.le_trans hF.size hbb6
    have hneB.cb6 : B.c < b6 := Nat.lt_of_lt_of_le hC.lt hbb6
    have hnevbb6 : vb < b6 := Nat.lt_of_lt_of_le hV.lt hbb6
    have hneb4b6 : b4 < b6 := Nat.lt_of_lt_of_le h4.lt hbb6
    have hneB.eb6 : B.e < b6 := Nat.lt_of_lt_of_le hB.lt hbb6
    replace hF := hF.thenDrew.thenN F2
    replace hC := F2.blkN hC
    replace hV := F2.blkN hV
    replace h4 := F2.blkN h4
    replace hB := F2.blkN hB
    replace hM := hM.far F2 (fun h ↦ h) (fun h ↦ h) (fun h ↦ h)
    refine wl_puta rfl rfl ((inc_cells _)) sz_213 (rfl) h6 ((by simp)) ((show _ = inc x from rfl)) (fun w3 h6 F3 => ?_)
    replace hF := hF.thenDrew.thenO F3 (by first | exact .inr (by omega) | exact .inl rfl | exact .inl (by assumption))
    replace hC := F3.blkO hC (by omega)
    replace hV := F3.blkO hV (by omega)
    replace h4 := F3.blkO h4 (by omega)
    replace hB := F3.blkO hB (by omega)
    replace hM := hM.far F3 (fun h ↦ absurd (show B.e = b6 from h) (by omega)) (fun h ↦ absurd (show B.s = b6 from h) (by omega)) (fun h ↦ absurd (show B.t = b6 from h) (by omega))
    refine wl_nil (x_then (hK7 _ _ ?_))
    clear hK7 K7
    refine c_reg ?_ -- region 5 run.go:28
    refine wl (ro_move rfl) ?_
    refine wl (ro_loadAggB rfl ag_213 (by assumption) rfl rfl) ?_
    refine wl (ro_move rfl) ?_
    refine wl_call rfl en_188 (step188 ho' hv hM hV hel hL hok) ?_
    rintro _ u3 ⟨hM, G3⟩
    replace hF := hF.transG G3 (by intro k hk h; simp only [one, none', es, et, est] at h ⊢ <;> omega)
    replace hC := G3.blkF hC (by intro h; simp only [one, none', es, et, est] at h <;> omega)
    replace hV := G3.blkF hV (by intro h; simp only [one, none', es, et, est] at h <;> omega)
    replace h4 := G3.blkF h4 (by intro h; simp only [one, none', es, et, est] at h <;> omega)
    replace h6 := G3.blkF h6 (by intro h; simp only [one, none', es, et, est] at h <;> omega)
    refine wl_nil (x_blk (x_then (hK6 _ _ ?_)))
    clear hK6 K6
    refine c_reg ?_ -- region 3 run.go:26
    refine wl (ro_move rfl) ?_
    refine wl (ro_arith (r := ((st + (k + 1) : Nat) : Int)) rfl rfl (congrArg some (by omega)) (Go.IntWalk.i64_in _ (by omega))) ?_
    refine wl (ro_assign rfl) ?_
    refine wl_nil (x_then ?_)
    exact ⟨48 - (st + (k + 1)), by omega, k + 1, _, rfl, by omega, hM, hsafe, hex, hC, hV, h4, hF, kp _ ⟨rfl, rfl, rfl, rfl, trivial⟩⟩
  · try simp only [decide_eq_true_eq, decide_eq_false_iff_not, Bool.not_eq_true', Bool.not_eq_false', Bool.not_eq_eq_eq_not, Bool.not_true, Bool.not_false, beq_iff_eq, bne_iff_ne, ne_eq, beq_eq_false_iff_ne, bne_eq_false_iff_eq, gt_iff_lt, ge_iff_le, Int.not_lt, Int.not_le] at hc17
    have hk48 : st + k = 48 := by omega
    rw [hk48, List.drop_eq_nil_of_le (by omega)] at hex
    have hz : z = ([W], []) := hex
    subst hz
    replace hB : Blk u2.heap B.e (evs B st cl 1 0) 89 := hB
    have hs1 := hSl.top
    refine c_exit (x_thenX (x_thenX (x_blkX (x_then (hK2 _ _ ?_)))))
    clear hK4 K4 hK2 K2
    refine forget [(0, _), (4, _)] ⟨rfl, rfl, trivial⟩ (fun e => ?_)
    refine c_seq (fun K8 hK8 => ?_)
    refine c_reg ?_ -- region 6 run.go:30
    refine wl (ro_move rfl) ?_
    refine wl (ro_move rfl) ?_
    refine wl (ro_nilCheck rfl) ?_
    refine wl (ro_fieldAddr (k := 1) rfl fo_89_1) ?_
    refine wl (ro_loadB rfl sc_84 (by assumption) rfl) ?_
    refine wl (ro_lenL rfl se_84) ?_
    refine wl (ro_nilCheck rfl) ?_
    refine wl (ro_fieldAddr (k := 2) rfl fo_89_2) ?_
    refine wl_put rfl rfl rfl sz_3 hB ((by simp)) ((show _ = evs B 48 cl 1 0 from rfl)) (fun w4 hB F4 => ?_)
    replace hF := hF.thenDrew.thenO F4 (by first | exact .inr (by omega) | exact .inl rfl | exact .inl (by assumption))
    replace hC := F4.blkO hC (by omega)
    replace hV := F4.blkO hV (by omega)
    replace h4 := F4.blkO h4 (by omega)
    replace hK := F4.blkO hK (by omega)
    replace hT := F4.blkO hT (by omega)
    refine wl_nil (x_then (hK8 _ _ ?_))
    clear hK8 K8
    refine forget [(0, _), (4, _)] ⟨rfl, rfl, trivial⟩ (fun e => ?_)
    refine c_seq (fun K9 hK9 => ?_)
    refine c_reg ?_ -- region 7 run.go:31
    refine wl (ro_move rfl) ?_
    refine wl_call rfl en_189 (pop189 (top := 0) ho' hB hK hSl.1 (by omega) hs1.1) ?_
    rintro _ u5 ⟨rfl, hB, G5⟩
    replace hF := hF.transG G5 (by intro k hk h; simp only [one, none', es, et, est] at h ⊢ <;> omega)
    replace hC := G5.blkF hC (by intro h; simp only [one, none', es, et, est] at h <;> omega)
    replace hV := G5.blkF hV (by intro h; simp only [one, none', es, et, est] at h <;> omega)
    replace h4 := G5.blkF h4 (by intro h; simp only [one, none', es, et, est] at h <;> omega)
    replace hK := G5.blkF hK (by intro h; simp only [one, none', es, et, est] at h <;> omega)
    replace hT := G5.blkF hT (by intro h; simp only [one, none', es, et, est] at h <;> omega)
    refine wl_puta rfl rfl ((vlc_cells _)) sz_104 (rfl) h4 ((by simp)) (rfl) (fun w5 h4 F5 => ?_)
    replace hF := hF.thenDrew.thenO F5 (by first | exact .inr (by omega) | exact .inl rfl | exact .inl (by assumption))
    replace hC := F5.blkO hC (by omega)
    replace hV := F5.blkO hV (by omega)
    replace hB := F5.blkO hB (by omega)
    replace hK := F5.blkO hK (by omega)
    replace hT := F5.blkO hT (by omega)
    refine wl_nil (x_then (hK9 _ _ ?_))
    clear hK9 K9
    refine c_ret ?_
    refine bq_ret (res1 Tryz.results144 (rv_c rfl ag_104 (h4) rfl)) ?_
    exact ⟨rfl, ⟨_, _, hs1.2, hTl, hB, hK, hT⟩, hC, hF⟩

end Go.Proofs.Qxb6500570aGreat
