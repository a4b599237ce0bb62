import Derived.Test.Qxb6500570aGreatBk
import Derived.Test.Qxb6500570aGreatPl
/- The real former: an operator, or the end of an expression; the whole parse. -/
namespace Go.Proofs.Qxb6500570aGreat
set_option linter.unusedVariables false
set_option linter.unusedSimpArgs false

/-- What a round leaves: the next state, a fault, or the tree. -/
def RdP (B : FB7) (T : List Tk) (w' : World) (o : Option (PS ⊕ List Nd)) : Prop :=
  (∃ st k', o = some (.inl st) ∧ st.ts = T.drop k' ∧ FW w' B T k' st.ar (ci st.ov) st.os st.hv false false ∧ st.ov.length ≤ k' ∧ st.os.length ≤ k') ∨ (o = none ∧ ∃ k' ar' ov' os' hv' dn', FW w' B T k' ar' ov' os' hv' dn' true) ∨ (∃ ar' k' ov' os' hv', o = some (.inr ar') ∧ FW w' B T k' ar' ov' os' hv' true false)

theorem RdP.close {w' : World} {B : FB7} {T : List Tk} {k : Nat} {O : Option (PS ⊕ List Nd)} {bad : Bool} {ar : List Nd} {ov : List Int} {os : List Mk} (hA : AI after2 O 0 (T.drop k) bad ar ov os) (hk1 : ov.length ≤ k) (hk2 : os.length ≤ k) (h : CP B T k w' (closeX (hdT (T.drop k)).k bad ar ov os)) : RdP B T w' O := by
  obtain ⟨h1, h2, h3⟩ := hA
  obtain ⟨k', hk', V⟩ := h
  have hl := closeX_len (tk := (hdT (T.drop k)).k) (bad := bad) (ar := ar) h1 h2
  rcases h3 with ⟨rfl, ho, _⟩ | ⟨rfl, ovN, rfl, hp, ho⟩
  · rw [closeX_bad] at V
    exact .inr (.inl ⟨ho, _, _, _, _, _, _, V⟩)
  · have ho' : O = closeP (T.drop k) ar ovN os := by rw [ho]; rfl
    rw [ho']
    rcases close_rel (ts := T.drop k) hp with ⟨hb, hc⟩ | ⟨hb, hd, ht, ov2, hov, hc⟩ | ⟨hb, hd, ht, hc⟩
    · rw [hb] at V
      exact .inr (.inl ⟨hc, _, _, _, _, _, _, V⟩)
    · rw [hb, hd, hov] at V
      rw [ht, if_pos rfl] at hk'
      rw [hov] at hl
      simp only [ci, List.length_map] at hl hk1
      exact .inl ⟨_, k', hc, by rw [hk']; simp, V, by show ov2.length ≤ _; omega, by show (closeX _ _ _ _ _).os.length ≤ _; simp only [ci]; omega⟩
    · rw [hb, hd] at V
      exact .inr (.inr ⟨_, _, _, _, _, hc, V⟩)

theorem FW.far {w w' : World} {B : FB7} {T : List Tk} {k : Nat} {ar : List Nd} {ov : List Int} {os : List Mk} {hv dn bad : Bool} (V : FW w B T k ar ov os hv dn bad) (F : Fram none' w w') : FW w' B T k ar ov os hv dn bad := by
  obtain ⟨pos, er, bd, wi, ft, fa, fv, fo, ⟨hB, hK, hA, hV, hO, htv, hav, hvv, hmv, hkT, hlT, hla⟩, hbad⟩ := V
  exact ⟨pos, er, bd, wi, ft, fa, fv, fo, ⟨F.blkN hB, F.blkN hK, F.blkN hA, F.blkN hV, F.blkN hO, htv, hav, hvv, hmv, hkT, hlT, hla⟩, hbad⟩
theorem after2_cs {O : Option (PS ⊕ List Nd)} {s : Nat} {ts : List Tk} {t : Tk} {bad : Bool} {ar : List Nd} {ov : List Int} {os : List Mk} (hs : s ≠ 0) (ht : hdT ts = t) (h : AI after2 O s ts bad ar ov os) :
    ∃ (v : Int) (r : List Int), ov = v :: r ∧ ((v = -1 ∧ bad = true ∧ O = none) ∨ (∃ (vn : Nat) (x : Nd), v = (vn : Int) ∧ bad = false ∧ ar[vn]? = some x ∧ ∃ rn, r = ci rn ∧ O = if x.k = 4 then none else some (.inl ⟨ts.tail, ar, vn :: rn, ⟨2, t.n, 0, 0⟩ :: os, false⟩))) := by
  obtain ⟨h1, h2, h3⟩ := h
  rcases h3 with ⟨hb, ho, h0 | ⟨r, rfl⟩⟩ | ⟨hb, ovN, rfl, hp, ho⟩
  · exact absurd h0 hs
  · exact ⟨-1, r, rfl, .inl ⟨rfl, hb, ho⟩⟩
  · obtain ⟨_, v, ov', lo, rfl, hv, hsg, hst⟩ := hp
    have hlt : v < ar.length := by omega
    refine ⟨v, ci ov', rfl, .inr ⟨v, ar[v], rfl, hb, List.getElem?_eq_getElem hlt, ov', rfl, ?_⟩⟩
    rw [ho]
    unfold after2
    rw [if_neg hs]
    simp only
    rw [ht]
    have : isRng ar v = decide (ar[v].k = 4) := by unfold isRng; rw [List.getElem?_eq_getElem hlt]
    rw [this]
    by_cases h4 : ar[v].k = 4 <;> simp [h4]

set_option maxHeartbeats 4000000 in
theorem after126 {w : World} {B : FB7} {T : List Tk} {k : Nat} {ar : List Nd} {ov : List Nat} {os : List Mk} (ho : FBo B) (V : FW w B T k ar (ci ov) os true false false) (hPT : PT ar ov os) (hk1 : ov.length ≤ k) (hk2 : os.length ≤ k) :
    Ret Tryz.prog 126 [ptr B.f] w (fun v w' => v = .tuple #[] ∧ RdP B T w' (after0 (tkS (hdT (T.drop k))) (T.drop k) ar ov os) ∧ Fram (fset B) w w') := by
  have hF : Fram (fset B) w w := Fram.refl _ _
  obtain ⟨pos, er, bd, wi, ft, fa, fv, fo, ⟨hB, hK, hA, hV, hO, htv, hav, hvv, hmv, hkT, hlT, hla⟩, hbad⟩ := V
  have hhd := hd_drop (T := T) (k := k)
  have hAI := AI.start (ts := T.drop k) hPT
  generalize hO' : after0 (tkS (hdT (T.drop k))) (T.drop k) ar ov os = O at hAI
  generalize htt : hdT (T.drop k) = t at hAI hhd
  have hm1 : fset B B.f := .inl rfl
  have her : er = 0 := by simpa using hbad
  have hcil : (ci ov).length = ov.length := by simp [ci]
  refine ret_of Tryz.func126 rfl Tryz.ntmps126 rfl ?_
  refine c_seq (fun K1 hK1 => ?_)
  refine c_reg ?_ -- region 0 parse.go:174
  refine wl (ro_move rfl) ?_
  refine wl_call rfl en_155 (look155 ho hkT hlT hB hK htv) ?_
  rintro _ u4 ⟨a, te, rfl, ⟨pos2, er2, bd2, her1, her2, hB⟩, G4⟩
  replace hF := hF.transG G4 (by intro k hk h; simp only [one, none', fset, fo2] at h ⊢ <;> omega)
  replace hK := G4.blkF hK (by intro h; simp only [one, none', fset, fo2, ho.all, or_self, false_or, or_false] at h <;> omega)
  replace hA := G4.blkF hA (by intro h; simp only [one, none', fset, fo2, ho.all, or_self, false_or, or_false] at h <;> omega)
  replace hV := G4.blkF hV (by intro h; simp only [one, none', fset, fo2, ho.all, or_self, false_or, or_false] at h <;> omega)
  replace hO := G4.blkF hO (by intro h; simp only [one, none', fset, fo2, ho.all, or_self, false_or, or_false] at h <;> omega)
  rw [htt] at her1 her2 ⊢
  refine wl_new (ze_189) (fun xb w1 hbxb hX F1 => ?_)
  have hbsxb := Nat.le_trans hF.size hbxb
  have hneB.fxb : B.f < xb := Nat.lt_of_lt_of_le hB.lt hbxb
  have hneB.txb : B.t < xb := Nat.lt_of_lt_of_le hK.lt hbxb
  have hneB.axb : B.a < xb := Nat.lt_of_lt_of_le hA.lt hbxb
  have hneB.vxb : B.v < xb := Nat.lt_of_lt_of_le hV.lt hbxb
  have hneB.oxb : B.o < xb := Nat.lt_of_lt_of_le hO.lt hbxb
  replace hF := hF.thenDrew.thenN F1
  replace hB := F1.blkN hB
  replace hK := F1.blkN hK
  replace hA := F1.blkN hA
  replace hV := F1.blkN hV
  replace hO := F1.blkN hO
  refine wl_puta rfl rfl ((tkc_cells a te t)) sz_189 (rfl) hX ((by simp)) (rfl) (fun w2 hX F2 => ?_)
  replace hF := hF.thenDrew.thenO F2 (by first | exact .inr (by omega) | exact .inl rfl | exact .inl (by assumption))
  replace hB := F2.blkO hB (by first | (simp only [ne_eq, ho.all, not_false_eq_true]; done) | omega)
  replace hK := F2.blkO hK (by first | (simp only [ne_eq, ho.all, not_false_eq_true]; done) | omega)
  replace hA := F2.blkO hA (by first | (simp only [ne_eq, ho.all, not_false_eq_true]; done) | omega)
  replace hV := F2.blkO hV (by first | (simp only [ne_eq, ho.all, not_false_eq_true]; done) | omega)
  replace hO := F2.blkO hO (by first | (simp only [ne_eq, ho.all, not_false_eq_true]; done) | omega)
  refine wl_nil (x_then (hK1 _ _ ?_))
  clear hK1 K1
  refine forget [(0, _), (2, _)] ⟨rfl, rfl, trivial⟩ (fun e => ?_)
  refine c_seq (fun K2 hK2 => ?_)
  have V0 : FW _ B T k ar (ci ov) os true false (decide (t.k = 1)) := ⟨_, _, _, _, _, _, _, _, ⟨hB, hK, hA, hV, hO, htv, hav, hvv, hmv, hkT, hlT, hla⟩, by
    by_cases h1 : t.k = 1
    · have := her1 h1; simp [h1, this]
    · have := her2 h1; simp [h1, this, her]⟩
  rw [← hcil] at hk1
  refine c_reg ?_ -- region 1 parse.go:175
  refine wl (ro_assign rfl) ?_
  refine wl_nil (x_then (hK2 _ _ ?_))
  clear hK2 K2
  refine c_mid (fun a' w' => FW w' B T k ar (ci ov) os true false (decide (t.k = 1)) ∧ Blk w'.heap xb (tkc a te t) 189 ∧ Fram (fset B) w w' ∧ ∃ e, a' = Fr 70 (upds e [(0, ptr B.f), (2, ptr xb), (3, i64c (tkS t))]) []) ?_ ?_
  · skip
    refine c_seq (fun K3 hK3 => ?_)
    refine c_reg ?_ -- region 2 parse.go:176
    refine wl (ro_fieldAddr (k := 0) rfl fo_189_0) ?_
    refine wl (ro_loadB rfl sc_3 (hX) (rfl)) ?_
    refine wl (ro_cmp (r := decide (t.k = 6)) rfl rfl (congrArg some (beqc t.k 6))) ?_
    refine wl_nil (x_then (hK3 _ _ ?_))
    clear hK3 K3
    refine wc_cond rfl (fun hc9 => ?_) (fun hc9 => ?_)
    · try simp only [decide_eq_true_eq, decide_eq_false_iff_not, Bool.not_eq_true', Bool.not_eq_false', Bool.not_eq_eq_eq_not, Bool.not_true, Bool.not_false, beq_iff_eq, bne_iff_ne, ne_eq, beq_eq_false_iff_ne, bne_eq_false_iff_eq, gt_iff_lt, ge_iff_le, Int.not_lt, Int.not_le] at hc9
      refine c_reg ?_ -- region 3 parse.go:177
      refine wl (ro_fieldAddr (k := 4) rfl fo_189_4) ?_
      refine wl (ro_loadB rfl sc_3 (hX) (rfl)) ?_
      refine wl_call rfl en_156 (strength156) ?_
      rintro _ _ ⟨rfl, rfl⟩
      refine wl (ro_assign rfl) ?_
      refine wl_nil (x_then ?_)
      first
        | exact ⟨V0, hX, hF, kp _ ⟨rfl, rfl, by unfold tkS; rw [if_pos hc9]; rfl, trivial⟩⟩
        | exact ⟨V0, hX, hF, kp _ ⟨rfl, rfl, by unfold tkS; rw [if_neg hc9]; rfl, trivial⟩⟩
    · try simp only [decide_eq_true_eq, decide_eq_false_iff_not, Bool.not_eq_true', Bool.not_eq_false', Bool.not_eq_eq_eq_not, Bool.not_true, Bool.not_false, beq_iff_eq, bne_iff_ne, ne_eq, beq_eq_false_iff_ne, bne_eq_false_iff_eq, gt_iff_lt, ge_iff_le, Int.not_lt, Int.not_le] at hc9
      refine c_skip (x_then ?_)
      first
        | exact ⟨V0, hX, hF, kp _ ⟨rfl, rfl, by unfold tkS; rw [if_pos hc9]; rfl, trivial⟩⟩
        | exact ⟨V0, hX, hF, kp _ ⟨rfl, rfl, by unfold tkS; rw [if_neg hc9]; rfl, trivial⟩⟩
  clear hB hK hA hV hO hX hF V0 hav hvv hmv htv
  rintro a' u5 ⟨V0, hX, hF, e, rfl⟩
  refine c_mid (fun a' w' => ∃ (bad1 : Bool) (ar1 : List Nd) (ov1 : List Int) (os1 : List Mk), AI after1 O (tkS t) (T.drop k) bad1 ar1 ov1 os1 ∧ FW w' B T k ar1 ov1 os1 true false bad1 ∧ ov1.length ≤ k ∧ os1.length ≤ k ∧ Blk w'.heap xb (tkc a te t) 189 ∧ Fram (fset B) w w' ∧ ∃ e, a' = Fr 70 (upds e [(0, ptr B.f), (2, ptr xb), (3, i64c (tkS t))]) []) ?_ ?_
  · skip
    refine c_seq (fun K4 hK4 => ?_)
    refine c_reg ?_ -- region 4 parse.go:179
    refine wl (ro_move rfl) ?_
    refine wl (ro_cmp (r := decide (tkS t < 3)) rfl rfl (congrArg some (decide_eq_decide.2 (by omega)))) ?_
    refine wl_nil (x_then (hK4 _ _ ?_))
    clear hK4 K4
    refine wc_cond rfl (fun hc14 => ?_) (fun hc14 => ?_)
    · try simp only [decide_eq_true_eq, decide_eq_false_iff_not, Bool.not_eq_true', Bool.not_eq_false', Bool.not_eq_eq_eq_not, Bool.not_true, Bool.not_false, beq_iff_eq, bne_iff_ne, ne_eq, beq_eq_false_iff_ne, bne_eq_false_iff_eq, gt_iff_lt, ge_iff_le, Int.not_lt, Int.not_le] at hc14
      have Vc := V0
      obtain ⟨pos, er, bd, wi, ft, fa, fv, fo, ⟨hB, hK, hA, hV, hO, htv, hav, hvv, hmv, hkT, hlT, hla⟩, hbad⟩ := Vc
      refine c_seq (fun K5 hK5 => ?_)
      refine c_reg ?_ -- region 5 parse.go:180
      refine wl (ro_move rfl) ?_
      refine wl_call rfl en_157 (top157 (by omega) hB hO hmv) ?_
      rintro _ u7 ⟨rfl, G7⟩
      replace V0 := FW.far V0 G7
      replace hF := hF.transG G7 (by intro k hk h; simp only [one, none', fset, fo2] at h ⊢ <;> omega)
      replace hX := G7.blkF hX (by intro h; simp only [one, none', fset, fo2, ho.all, or_self, false_or, or_false] at h <;> omega)
      refine wl (ro_cmp (r := decide (topS os = 2)) rfl rfl (congrArg some (beqc (topS os) 2))) ?_
      refine wl_nil (x_then (hK5 _ _ ?_))
      clear hK5 K5
      refine wc_cond rfl (fun hc17 => ?_) (fun hc17 => ?_)
      · try simp only [decide_eq_true_eq, decide_eq_false_iff_not, Bool.not_eq_true', Bool.not_eq_false', Bool.not_eq_eq_eq_not, Bool.not_true, Bool.not_false, beq_iff_eq, bne_iff_ne, ne_eq, beq_eq_false_iff_ne, bne_eq_false_iff_eq, gt_iff_lt, ge_iff_le, Int.not_lt, Int.not_le] at hc17
        obtain ⟨m, os', hos⟩ : ∃ m os', os = m :: os' := by
          cases os with
          | nil => cases hc17
          | cons m os' => exact ⟨m, os', rfl⟩
        rw [hos] at hAI V0 hc17 hk2
        simp only [List.length_cons] at hk2
        obtain ⟨b1, a1, ov2, hov, hAI1⟩ := AI0_join hAI hc14 hc17
        rw [hov] at V0 hAI1 hk1
        simp only [List.length_cons] at hk1
        refine c_reg ?_ -- region 6 parse.go:181
        refine wl (ro_move rfl) ?_
        refine wl_call rfl en_158 (join158 ho V0 (by omega) (by omega)) ?_
        rintro _ u8 ⟨rfl, V2, G8⟩
        replace hF := hF.transG G8 (by intro k hk h; simp only [one, none', fset, fo2] at h ⊢ <;> omega)
        replace hX := G8.blkF hX (by intro h; simp only [one, none', fset, fo2, ho.all, or_self, false_or, or_false] at h <;> omega)
        refine wl_nil (x_then ?_)
        first
          | exact ⟨_, _, _, _, hAI1, V2, by have := joinX_ov (m := m) (bad := decide (t.k = 1)) (ar := ar) (ov := b1 :: a1 :: ov2) (by simp); simp only [List.length_cons] at this; omega, by omega, hX, hF, kp _ ⟨rfl, rfl, rfl, trivial⟩⟩
          | exact ⟨_, _, _, _, AI0_skip hAI (by omega), V0, hk1, hk2, hX, hF, kp _ ⟨rfl, rfl, rfl, trivial⟩⟩
      · try simp only [decide_eq_true_eq, decide_eq_false_iff_not, Bool.not_eq_true', Bool.not_eq_false', Bool.not_eq_eq_eq_not, Bool.not_true, Bool.not_false, beq_iff_eq, bne_iff_ne, ne_eq, beq_eq_false_iff_ne, bne_eq_false_iff_eq, gt_iff_lt, ge_iff_le, Int.not_lt, Int.not_le] at hc17
        refine c_skip (x_then ?_)
        first
          | exact ⟨_, _, _, _, hAI1, V2, by have := joinX_ov (m := m) (bad := decide (t.k = 1)) (ar := ar) (ov := b1 :: a1 :: ov2) (by simp); simp only [List.length_cons] at this; omega, by omega, hX, hF, kp _ ⟨rfl, rfl, rfl, trivial⟩⟩
          | exact ⟨_, _, _, _, AI0_skip hAI (by omega), V0, hk1, hk2, hX, hF, kp _ ⟨rfl, rfl, rfl, trivial⟩⟩
    · try simp only [decide_eq_true_eq, decide_eq_false_iff_not, Bool.not_eq_true', Bool.not_eq_false', Bool.not_eq_eq_eq_not, Bool.not_true, Bool.not_false, beq_iff_eq, bne_iff_ne, ne_eq, beq_eq_false_iff_ne, bne_eq_false_iff_eq, gt_iff_lt, ge_iff_le, Int.not_lt, Int.not_le] at hc14
      refine c_skip (x_then ?_)
      first
        | exact ⟨_, _, _, _, hAI1, V2, by have := joinX_ov (m := m) (bad := decide (t.k = 1)) (ar := ar) (ov := b1 :: a1 :: ov2) (by simp); simp only [List.length_cons] at this; omega, by omega, hX, hF, kp _ ⟨rfl, rfl, rfl, trivial⟩⟩
        | exact ⟨_, _, _, _, AI0_skip hAI (by omega), V0, hk1, hk2, hX, hF, kp _ ⟨rfl, rfl, rfl, trivial⟩⟩
  clear hX hF V0 hAI hk1 hk2
  rintro a' u6 ⟨bad1, ar1, ov1, os1, hAI, V1, hk1, hk2, hX, hF, e, rfl⟩
  refine c_mid (fun a' w' => ∃ (s1 : Nat) (bad1 : Bool) (ar1 : List Nd) (ov1 : List Int) (os1 : List Mk), (s1 = 0 ∨ s1 = tkS t) ∧ AI after2 O s1 (T.drop k) bad1 ar1 ov1 os1 ∧ FW w' B T k ar1 ov1 os1 true false bad1 ∧ ov1.length ≤ k ∧ os1.length ≤ k ∧ Blk w'.heap xb (tkc a te t) 189 ∧ Fram (fset B) w w' ∧ ∃ e, a' = Fr 70 (upds e [(0, ptr B.f), (2, ptr xb), (3, i64c s1)]) []) ?_ ?_
  · skip
    refine c_seq (fun K6 hK6 => ?_)
    refine c_reg ?_ -- region 7 parse.go:184
    refine wl (ro_move rfl) ?_
    refine wl (ro_cmp (r := decide (tkS t < 2)) rfl rfl (congrArg some (decide_eq_decide.2 (by omega)))) ?_
    refine wl_nil (x_then (hK6 _ _ ?_))
    clear hK6 K6
    refine wc_cond rfl (fun hc21 => ?_) (fun hc21 => ?_)
    · try simp only [decide_eq_true_eq, decide_eq_false_iff_not, Bool.not_eq_true', Bool.not_eq_false', Bool.not_eq_eq_eq_not, Bool.not_true, Bool.not_false, beq_iff_eq, bne_iff_ne, ne_eq, beq_eq_false_iff_ne, bne_eq_false_iff_eq, gt_iff_lt, ge_iff_le, Int.not_lt, Int.not_le] at hc21
      have Vc := V1
      obtain ⟨pos, er, bd, wi, ft, fa, fv, fo, ⟨hB, hK, hA, hV, hO, htv, hav, hvv, hmv, hkT, hlT, hla⟩, hbad⟩ := Vc
      refine c_seq (fun K7 hK7 => ?_)
      refine c_reg ?_ -- region 8 parse.go:185
      refine wl (ro_move rfl) ?_
      refine wl_call rfl en_157 (top157 (by omega) hB hO hmv) ?_
      rintro _ u7 ⟨rfl, G7⟩
      replace V1 := FW.far V1 G7
      replace hF := hF.transG G7 (by intro k hk h; simp only [one, none', fset, fo2] at h ⊢ <;> omega)
      replace hX := G7.blkF hX (by intro h; simp only [one, none', fset, fo2, ho.all, or_self, false_or, or_false] at h <;> omega)
      refine wl (ro_cmp (r := decide (topS os1 = 1)) rfl rfl (congrArg some (beqc (topS os1) 1))) ?_
      refine wl_nil (x_then (hK7 _ _ ?_))
      clear hK7 K7
      refine wc_cond rfl (fun hc24 => ?_) (fun hc24 => ?_)
      · try simp only [decide_eq_true_eq, decide_eq_false_iff_not, Bool.not_eq_true', Bool.not_eq_false', Bool.not_eq_eq_eq_not, Bool.not_true, Bool.not_false, beq_iff_eq, bne_iff_ne, ne_eq, beq_eq_false_iff_ne, bne_eq_false_iff_eq, gt_iff_lt, ge_iff_le, Int.not_lt, Int.not_le] at hc24
        obtain ⟨m, os', hos⟩ : ∃ m os', os1 = m :: os' := by
          cases os1 with
          | nil => cases hc24
          | cons m os' => exact ⟨m, os', rfl⟩
        rw [hos] at hAI V1 hc24 hk2
        simp only [List.length_cons] at hk2
        obtain ⟨b1, a1, ov2, hov, hAI1⟩ := AI1_join hAI hc21 hc24
        rw [hov] at V1 hAI1 hk1
        simp only [List.length_cons] at hk1
        refine c_seq (fun K8 hK8 => ?_)
        refine c_reg ?_ -- region 9 parse.go:186
        refine wl (ro_move rfl) ?_
        refine wl_call rfl en_158 (join158 ho V1 (by omega) (by omega)) ?_
        rintro _ u8 ⟨rfl, V2, G8⟩
        replace hF := hF.transG G8 (by intro k hk h; simp only [one, none', fset, fo2] at h ⊢ <;> omega)
        replace hX := G8.blkF hX (by intro h; simp only [one, none', fset, fo2, ho.all, or_self, false_or, or_false] at h <;> omega)
        refine wl_nil (x_then (hK8 _ _ ?_))
        clear hK8 K8
        refine c_reg ?_ -- region 10 parse.go:187
        refine wl (ro_assign rfl) ?_
        refine wl_nil (x_then ?_)
        first
          | exact ⟨0, _, _, _, _, .inl rfl, hAI1, V2, by have := joinX_ov (m := m) (bad := bad1) (ar := ar1) (ov := b1 :: a1 :: ov2) (by simp); simp only [List.length_cons] at this; omega, by omega, hX, hF, kp _ ⟨rfl, rfl, rfl, trivial⟩⟩
          | exact ⟨_, _, _, _, _, .inr rfl, AI1_skip hAI (by omega), V1, hk1, hk2, hX, hF, kp _ ⟨rfl, rfl, rfl, trivial⟩⟩
      · try simp only [decide_eq_true_eq, decide_eq_false_iff_not, Bool.not_eq_true', Bool.not_eq_false', Bool.not_eq_eq_eq_not, Bool.not_true, Bool.not_false, beq_iff_eq, bne_iff_ne, ne_eq, beq_eq_false_iff_ne, bne_eq_false_iff_eq, gt_iff_lt, ge_iff_le, Int.not_lt, Int.not_le] at hc24
        refine c_skip (x_then ?_)
        first
          | exact ⟨0, _, _, _, _, .inl rfl, hAI1, V2, by have := joinX_ov (m := m) (bad := bad1) (ar := ar1) (ov := b1 :: a1 :: ov2) (by simp); simp only [List.length_cons] at this; omega, by omega, hX, hF, kp _ ⟨rfl, rfl, rfl, trivial⟩⟩
          | exact ⟨_, _, _, _, _, .inr rfl, AI1_skip hAI (by omega), V1, hk1, hk2, hX, hF, kp _ ⟨rfl, rfl, rfl, trivial⟩⟩
    · try simp only [decide_eq_true_eq, decide_eq_false_iff_not, Bool.not_eq_true', Bool.not_eq_false', Bool.not_eq_eq_eq_not, Bool.not_true, Bool.not_false, beq_iff_eq, bne_iff_ne, ne_eq, beq_eq_false_iff_ne, bne_eq_false_iff_eq, gt_iff_lt, ge_iff_le, Int.not_lt, Int.not_le] at hc21
      refine c_skip (x_then ?_)
      first
        | exact ⟨0, _, _, _, _, .inl rfl, hAI1, V2, by have := joinX_ov (m := m) (bad := bad1) (ar := ar1) (ov := b1 :: a1 :: ov2) (by simp); simp only [List.length_cons] at this; omega, by omega, hX, hF, kp _ ⟨rfl, rfl, rfl, trivial⟩⟩
        | exact ⟨_, _, _, _, _, .inr rfl, AI1_skip hAI (by omega), V1, hk1, hk2, hX, hF, kp _ ⟨rfl, rfl, rfl, trivial⟩⟩
  clear hX hF V1 hAI hk1 hk2 bad1 ar1 ov1 os1
  rintro a' u9 ⟨s1, bad1, ar1, ov1, os1, hs1, hAI, V1, hk1, hk2, hX, hF, e, rfl⟩
  refine c_seq (fun K9 hK9 => ?_)
  refine c_seq (fun K10 hK10 => ?_)
  refine c_reg ?_ -- region 11 parse.go:190
  refine wl (ro_move rfl) ?_
  refine wl (ro_cmp (r := decide (s1 = 0)) rfl rfl (congrArg some (beqc s1 0))) ?_
  refine wl_nil (x_then (hK10 _ _ ?_))
  clear hK10 K10
  refine wc_cond rfl (fun hc28 => ?_) (fun hc28 => ?_)
  · try simp only [decide_eq_true_eq, decide_eq_false_iff_not, Bool.not_eq_true', Bool.not_eq_false', Bool.not_eq_eq_eq_not, Bool.not_true, Bool.not_false, beq_iff_eq, bne_iff_ne, ne_eq, beq_eq_false_iff_ne, bne_eq_false_iff_eq, gt_iff_lt, ge_iff_le, Int.not_lt, Int.not_le] at hc28
    rw [hc28] at hAI
    have hcal := close159 (a := a) (te := te) ho V1 hAI.1 hAI.2.1 (by omega) (by omega)
    rw [htt] at hcal
    refine c_seq (fun K11 hK11 => ?_)
    refine c_reg ?_ -- region 12 parse.go:191
    refine wl (ro_move rfl) ?_
    refine wl (ro_loadAggB rfl ag_189 (hX) (rfl) (rfl)) ?_
    refine wl_call rfl en_159 (hcal) ?_
    rintro _ u8 ⟨rfl, V2, G8⟩
    replace hF := hF.transG G8 (by intro k hk h; simp only [one, none', fset, fo2] at h ⊢ <;> omega)
    replace hX := G8.blkF hX (by intro h; simp only [one, none', fset, fo2, ho.all, or_self, false_or, or_false] at h <;> omega)
    refine wl_nil (x_then (hK11 _ _ ?_))
    clear hK11 K11
    refine c_ret (x_thenR ?_)
    refine bp_ret Tryz.results126 rfl ?_
    exact ⟨rfl, RdP.close hAI hk1 hk2 (by rw [htt]; exact V2), hF⟩
  · try simp only [decide_eq_true_eq, decide_eq_false_iff_not, Bool.not_eq_true', Bool.not_eq_false', Bool.not_eq_eq_eq_not, Bool.not_true, Bool.not_false, beq_iff_eq, bne_iff_ne, ne_eq, beq_eq_false_iff_ne, bne_eq_false_iff_eq, gt_iff_lt, ge_iff_le, Int.not_lt, Int.not_le] at hc28
    have h6 : t.k = 6 := by
      rcases hs1 with h | h
      · exact absurd h hc28
      · unfold tkS at h
        split at h
        · assumption
        · exact absurd h hc28
    obtain ⟨hkl, hdr⟩ := hhd (by omega)
    obtain ⟨pos, er, bd, wi, ft, fa, fv, fo, ⟨hB, hK, hA, hV, hO, htv, hav, hvv, hmv, hkT, hlT, hla⟩, hbad⟩ := V1
    obtain ⟨v, r, hov, hcs⟩ := after2_cs hc28 htt hAI
    rw [hov] at hB hvv hk1
    simp only [List.length_cons] at hk1
    have hyv : fv r.length = icv v := hvv.top
    refine c_skip (x_then (hK9 _ _ ?_))
    clear hK9 K9
    refine forget [(0, _), (2, _)] ⟨rfl, rfl, trivial⟩ (fun e => ?_)
    refine c_seq (fun K12 hK12 => ?_)
    refine c_pi [(0, false), (1, false), (2, false), (3, false), (4, false), (5, false), (6, false), (7, false), (8, false), (9, false), (10, false), (11, false)] (SameH _) mixed (by kernel_rfl) rfl (by kernel_rfl) (po_then (po_bp)) (sameH_now _ _) ?_ -- region 13 parse.go:194
    refine pi_ro rfl (fun w hS => ro_move rfl) ?_
    refine pi_ro rfl (fun w hS => ro_nilCheck rfl) ?_
    refine pi_ro rfl (fun w hS => ro_fieldAddr (k := 6) rfl fo_83_6) ?_
    refine pi_ro rfl (fun w hS => ro_loadB rfl sc_79 (Blk.of_heap hB hS) (rfl)) ?_
    refine pi_ro rfl (fun w hS => ro_move rfl) ?_
    refine pi_ro rfl (fun w hS => ro_nilCheck rfl) ?_
    refine pi_ro rfl (fun w hS => ro_fieldAddr (k := 7) rfl fo_83_7) ?_
    refine pi_ro rfl (fun w hS => ro_loadB rfl sc_3 (Blk.of_heap hB hS) (rfl)) ?_
    refine pi_ro rfl (fun w hS => ro_arith (r := (r.length : Int)) rfl rfl (congrArg some (by show ((r.length + 1 : Nat) : Int) - 1 = _; omega)) (Go.IntWalk.i64_in _ (by omega))) ?_
    refine pi_ro rfl (fun w hS => ro_indexAddr (et := 3) (k := 1) rfl rfl se_79 (rfl) ((by omega : r.length < 41))) ?_
    refine pi_ro rfl (fun w hS => ro_loadB rfl sc_3 (Blk.of_heap hV hS) (cel_at (k := r.length) (by omega) (by omega) hyv)) ?_
    refine pi_ro rfl (fun w hS => ro_assign rfl) ?_
    refine pi_nil (x_then (hK12 _ _ ?_))
    clear hK12 K12
    refine c_seq (fun K13 hK13 => ?_)
    refine c_seq (fun K14 hK14 => ?_)
    rcases hcs with ⟨rfl, hbt, hOn⟩ | ⟨vn, x, rfl, hbt, hx, rn, hrn, hOn⟩
    · skip
      refine c_reg ?_ -- region 14 parse.go:195
      refine wl (ro_move rfl) ?_
      refine wl (ro_cmp (r := false) rfl rfl rfl) ?_
      refine wl (ro_move rfl) ?_
      refine wlg_no rfl ?_
      refine wlg_no rfl ?_
      refine wlg_no rfl ?_
      refine wlg_no rfl ?_
      refine wlg_no rfl ?_
      refine wlg_no rfl ?_
      refine wlg_no rfl ?_
      refine wlg_no rfl ?_
      refine wlg_no rfl ?_
      refine wl (ro_pick rfl rfl rfl) ?_
      refine wl_nil (x_then (hK14 _ _ ?_))
      clear hK14 K14
      refine wc_condF rfl ?_
      refine c_skip (x_then (hK13 _ _ ?_))
      clear hK13 K13
      refine forget [(0, _), (2, _)] ⟨rfl, rfl, trivial⟩ (fun e => ?_)
      refine c_seq (fun K15 hK15 => ?_)
      refine c_reg ?_ -- region 16 parse.go:199
      refine wl (ro_move rfl) ?_
      refine wl_call rfl en_161 (take161 ho hkT hlT hB hK htv) ?_
      rintro _ u3 ⟨rfl, ⟨pos1, hB⟩, G3⟩
      replace hF := hF.transG G3 (by intro k hk h; simp only [one, none', fset, fo2] at h ⊢ <;> omega)
      replace hX := G3.blkF hX (by intro h; simp only [one, none', fset, fo2, ho.all, or_self, false_or, or_false] at h <;> omega)
      replace hK := G3.blkF hK (by intro h; simp only [one, none', fset, fo2, ho.all, or_self, false_or, or_false] at h <;> omega)
      replace hA := G3.blkF hA (by intro h; simp only [one, none', fset, fo2, ho.all, or_self, false_or, or_false] at h <;> omega)
      replace hV := G3.blkF hV (by intro h; simp only [one, none', fset, fo2, ho.all, or_self, false_or, or_false] at h <;> omega)
      replace hO := G3.blkF hO (by intro h; simp only [one, none', fset, fo2, ho.all, or_self, false_or, or_false] at h <;> omega)
      refine wl_nil (x_then (hK15 _ _ ?_))
      clear hK15 K15
      refine forget [(0, _), (2, _)] ⟨rfl, rfl, trivial⟩ (fun e => ?_)
      refine c_seq (fun K16 hK16 => ?_)
      refine c_reg ?_ -- region 17 parse.go:200
      refine wl (ro_move rfl) ?_
      refine wl (ro_fieldAddr (k := 4) rfl fo_189_4) ?_
      refine wl (ro_loadB rfl sc_3 (hX) (rfl)) ?_
      refine wl (ro_build rfl bld_197_0_1) ?_
      refine wl_call rfl en_162 (push162 (a := 0) (m := ⟨2, t.n, 0, 0⟩) ho (by omega) hB hO hmv) ?_
      rintro _ u9 ⟨rfl, hB, ⟨fo9, hO, hmv⟩, G9⟩
      replace hF := hF.transG G9 (by intro k hk h; simp only [one, none', fset, fo2] at h ⊢ <;> omega)
      replace hX := G9.blkF hX (by intro h; simp only [one, none', fset, fo2, ho.all, or_self, false_or, or_false] at h <;> omega)
      replace hK := G9.blkF hK (by intro h; simp only [one, none', fset, fo2, ho.all, or_self, false_or, or_false] at h <;> omega)
      replace hA := G9.blkF hA (by intro h; simp only [one, none', fset, fo2, ho.all, or_self, false_or, or_false] at h <;> omega)
      replace hV := G9.blkF hV (by intro h; simp only [one, none', fset, fo2, ho.all, or_self, false_or, or_false] at h <;> omega)
      refine wl_nil (x_then (hK16 _ _ ?_))
      clear hK16 K16
      refine c_reg ?_ -- region 18 parse.go:201
      refine wl (ro_move rfl) ?_
      refine wl (ro_nilCheck rfl) ?_
      refine wl (ro_fieldAddr (k := 10) rfl fo_83_10) ?_
      refine wl_put rfl rfl rfl sz_4 hB ((by simp)) ((show _ = fml B (T.length + 1) (k + 1) pos1 ar1.length (r.length + 1) (os1.length + 1) false false er bd wi from rfl)) (fun w3 hB F3 => ?_)
      replace hF := hF.thenDrew.thenO F3 (by first | exact .inr (by omega) | exact .inl rfl | exact .inl (by assumption))
      replace hX := F3.blkO hX (by first | (simp only [ne_eq, ho.all, not_false_eq_true]; done) | omega)
      replace hK := F3.blkO hK (by first | (simp only [ne_eq, ho.all, not_false_eq_true]; done) | omega)
      replace hA := F3.blkO hA (by first | (simp only [ne_eq, ho.all, not_false_eq_true]; done) | omega)
      replace hV := F3.blkO hV (by first | (simp only [ne_eq, ho.all, not_false_eq_true]; done) | omega)
      replace hO := F3.blkO hO (by first | (simp only [ne_eq, ho.all, not_false_eq_true]; done) | omega)
      refine wl_nil ?_
      refine bp_end Tryz.results126 rfl ?_
      exact ⟨rfl, .inr (.inl ⟨hOn, k + 1, ar1, _, _, _, _, _, _, _, _, _, _, _, _, ⟨hB, hK, hA, hV, hO, htv, hav, hvv, hmv, by omega, hlT, hla⟩, by rw [hbad, hbt]⟩), hF⟩
    · skip
      have hvl : vn < ar1.length := (List.getElem?_eq_some_iff.1 hx).1
      have hx0 : fa (vn * 13 + 0) = icv x.k := hav vn x hx 0 _ rfl
      refine c_reg ?_ -- region 14 parse.go:195
      refine wl (ro_move rfl) ?_
      refine wl (ro_cmp (r := true) rfl rfl (congrArg some (decide_eq_true (by omega)))) ?_
      refine wl (ro_move rfl) ?_
      refine wlg_yes rfl (ro_move rfl) ?_
      refine wlg_yes rfl (ro_nilCheck rfl) ?_
      refine wlg_yes rfl (ro_fieldAddr (k := 4) rfl fo_83_4) ?_
      refine wlg_yes rfl (ro_loadB rfl sc_78 (hB) (rfl)) ?_
      refine wlg_yes rfl (ro_move rfl) ?_
      refine wlg_yes rfl (ro_indexAddr (et := 143) (k := 13) rfl rfl se_78 (rfl) ((by omega : vn < 24))) ?_
      refine wlg_yes rfl (ro_fieldAddr (k := 0) rfl fo_143_0) ?_
      refine wlg_yes rfl (ro_loadB rfl sc_3 (hA) (cel_at (k := vn * 13 + 0) (by omega) (by omega) hx0)) ?_
      refine wlg_yes rfl (ro_cmp (r := decide (x.k = 4)) rfl rfl (congrArg some (by by_cases h : x.k = 4 <;> simp [h]))) ?_
      refine wl (ro_pick rfl rfl rfl) ?_
      refine wl_nil (x_then (hK14 _ _ ?_))
      clear hK14 K14
      refine wc_cond rfl (fun hc55 => ?_) (fun hc55 => ?_)
      · try simp only [decide_eq_true_eq, decide_eq_false_iff_not, Bool.not_eq_true', Bool.not_eq_false', Bool.not_eq_eq_eq_not, Bool.not_true, Bool.not_false, beq_iff_eq, bne_iff_ne, ne_eq, beq_eq_false_iff_ne, bne_eq_false_iff_eq, gt_iff_lt, ge_iff_le, Int.not_lt, Int.not_le] at hc55
        refine c_seq (fun K17 hK17 => ?_)
        refine c_reg ?_ -- region 15 parse.go:196
        refine wl (ro_move rfl) ?_
        refine wl (ro_fieldAddr (k := 1) rfl fo_189_1) ?_
        refine wl (ro_loadB rfl sc_3 (hX) (rfl)) ?_
        refine wl_call rfl en_160 (fail160 (by decide) hB) ?_
        rintro _ u8 ⟨rfl, ⟨er7, bd7, hne7, hB⟩, G8⟩
        replace hF := hF.transG G8 (by intro k hk h; simp only [one, none', fset, fo2] at h ⊢ <;> omega)
        replace hX := G8.blkF hX (by intro h; simp only [one, none', fset, fo2, ho.all, or_self, false_or, or_false] at h <;> omega)
        replace hK := G8.blkF hK (by intro h; simp only [one, none', fset, fo2, ho.all, or_self, false_or, or_false] at h <;> omega)
        replace hA := G8.blkF hA (by intro h; simp only [one, none', fset, fo2, ho.all, or_self, false_or, or_false] at h <;> omega)
        replace hV := G8.blkF hV (by intro h; simp only [one, none', fset, fo2, ho.all, or_self, false_or, or_false] at h <;> omega)
        replace hO := G8.blkF hO (by intro h; simp only [one, none', fset, fo2, ho.all, or_self, false_or, or_false] at h <;> omega)
        refine wl_nil (x_then (hK17 _ _ ?_))
        clear hK17 K17
        refine c_ret (x_thenR ?_)
        refine bp_ret Tryz.results126 rfl ?_
        refine ⟨rfl, .inr (.inl ⟨by rw [hOn, if_pos hc55], _, _, _, _, _, _, _, _, _, _, _, _, _, _, ⟨hB, hK, hA, hV, hO, htv, hav, hvv, hmv, hkT, hlT, hla⟩, by simpa using hne7⟩), hF⟩
      · try simp only [decide_eq_true_eq, decide_eq_false_iff_not, Bool.not_eq_true', Bool.not_eq_false', Bool.not_eq_eq_eq_not, Bool.not_true, Bool.not_false, beq_iff_eq, bne_iff_ne, ne_eq, beq_eq_false_iff_ne, bne_eq_false_iff_eq, gt_iff_lt, ge_iff_le, Int.not_lt, Int.not_le] at hc55
        refine c_skip (x_then (hK13 _ _ ?_))
        clear hK13 K13
        refine forget [(0, _), (2, _)] ⟨rfl, rfl, trivial⟩ (fun e => ?_)
        refine c_seq (fun K18 hK18 => ?_)
        refine c_reg ?_ -- region 16 parse.go:199
        refine wl (ro_move rfl) ?_
        refine wl_call rfl en_161 (take161 ho hkT hlT hB hK htv) ?_
        rintro _ u3 ⟨rfl, ⟨pos1, hB⟩, G3⟩
        replace hF := hF.transG G3 (by intro k hk h; simp only [one, none', fset, fo2] at h ⊢ <;> omega)
        replace hX := G3.blkF hX (by intro h; simp only [one, none', fset, fo2, ho.all, or_self, false_or, or_false] at h <;> omega)
        replace hK := G3.blkF hK (by intro h; simp only [one, none', fset, fo2, ho.all, or_self, false_or, or_false] at h <;> omega)
        replace hA := G3.blkF hA (by intro h; simp only [one, none', fset, fo2, ho.all, or_self, false_or, or_false] at h <;> omega)
        replace hV := G3.blkF hV (by intro h; simp only [one, none', fset, fo2, ho.all, or_self, false_or, or_false] at h <;> omega)
        replace hO := G3.blkF hO (by intro h; simp only [one, none', fset, fo2, ho.all, or_self, false_or, or_false] at h <;> omega)
        refine wl_nil (x_then (hK18 _ _ ?_))
        clear hK18 K18
        refine forget [(0, _), (2, _)] ⟨rfl, rfl, trivial⟩ (fun e => ?_)
        refine c_seq (fun K19 hK19 => ?_)
        refine c_reg ?_ -- region 17 parse.go:200
        refine wl (ro_move rfl) ?_
        refine wl (ro_fieldAddr (k := 4) rfl fo_189_4) ?_
        refine wl (ro_loadB rfl sc_3 (hX) (rfl)) ?_
        refine wl (ro_build rfl bld_197_0_1) ?_
        refine wl_call rfl en_162 (push162 (a := 0) (m := ⟨2, t.n, 0, 0⟩) ho (by omega) hB hO hmv) ?_
        rintro _ u9 ⟨rfl, hB, ⟨fo9, hO, hmv⟩, G9⟩
        replace hF := hF.transG G9 (by intro k hk h; simp only [one, none', fset, fo2] at h ⊢ <;> omega)
        replace hX := G9.blkF hX (by intro h; simp only [one, none', fset, fo2, ho.all, or_self, false_or, or_false] at h <;> omega)
        replace hK := G9.blkF hK (by intro h; simp only [one, none', fset, fo2, ho.all, or_self, false_or, or_false] at h <;> omega)
        replace hA := G9.blkF hA (by intro h; simp only [one, none', fset, fo2, ho.all, or_self, false_or, or_false] at h <;> omega)
        replace hV := G9.blkF hV (by intro h; simp only [one, none', fset, fo2, ho.all, or_self, false_or, or_false] at h <;> omega)
        refine wl_nil (x_then (hK19 _ _ ?_))
        clear hK19 K19
        refine c_reg ?_ -- region 18 parse.go:201
        refine wl (ro_move rfl) ?_
        refine wl (ro_nilCheck rfl) ?_
        refine wl (ro_fieldAddr (k := 10) rfl fo_83_10) ?_
        refine wl_put rfl rfl rfl sz_4 hB ((by simp)) ((show _ = fml B (T.length + 1) (k + 1) pos1 ar1.length (r.length + 1) (os1.length + 1) false false er bd wi from rfl)) (fun w4 hB F4 => ?_)
        replace hF := hF.thenDrew.thenO F4 (by first | exact .inr (by omega) | exact .inl rfl | exact .inl (by assumption))
        replace hX := F4.blkO hX (by first | (simp only [ne_eq, ho.all, not_false_eq_true]; done) | omega)
        replace hK := F4.blkO hK (by first | (simp only [ne_eq, ho.all, not_false_eq_true]; done) | omega)
        replace hA := F4.blkO hA (by first | (simp only [ne_eq, ho.all, not_false_eq_true]; done) | omega)
        replace hV := F4.blkO hV (by first | (simp only [ne_eq, ho.all, not_false_eq_true]; done) | omega)
        replace hO := F4.blkO hO (by first | (simp only [ne_eq, ho.all, not_false_eq_true]; done) | omega)
        refine wl_nil ?_
        refine bp_end Tryz.results126 rfl ?_
        have hrl : r.length = rn.length := by rw [hrn]; simp [ci]
        rw [hrl] at hB
        have hcl : (ci (vn :: rn)).length = rn.length + 1 := by simp [ci]
        rw [← hcl] at hB
        rw [hrn] at hvv
        exact ⟨rfl, .inl ⟨⟨(T.drop k).tail, ar1, vn :: rn, ⟨2, t.n, 0, 0⟩ :: os1, false⟩, k + 1, by rw [hOn, if_neg hc55], by simp, ⟨_, _, _, _, _, _, _, _, ⟨hB, hK, hA, hV, hO, htv, hav, hvv, hmv, by omega, hlT, hla⟩, by rw [hbad, hbt]⟩, by show rn.length + 1 ≤ _; omega, by show os1.length + 1 ≤ _; omega⟩, hF⟩

end Go.Proofs.Qxb6500570aGreat
