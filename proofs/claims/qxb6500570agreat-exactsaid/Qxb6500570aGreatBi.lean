import Derived.Test.Qxb6500570aGreatBh
/- The real former: references, calls, atoms. -/
namespace Go.Proofs.Qxb6500570aGreat
set_option linter.unusedVariables false
set_option linter.unusedSimpArgs false

theorem RangeOK196 {w : World} {f : Nat} : Ret Tryz.prog 196 [i64c f] w (fun v w' => v = .bool (rangeOK f) ∧ w' = w) := by
  refine ret_of Tryz.func196 rfl Tryz.ntmps196 rfl ?_
  refine c_seq (fun K1 hK1 => ?_)
  refine c_reg ?_ -- region 0 const.go:262
  refine wl (ro_assign rfl) ?_
  refine wl_nil (x_then (hK1 _ _ ?_))
  clear hK1 K1
  refine forget [(0, _)] ⟨rfl, trivial⟩ (fun e => ?_)
  refine c_seq (fun K2 hK2 => ?_)
  have hcs : f = 1 ∨ f = 2 ∨ f = 3 ∨ f = 4 ∨ (f ≠ 1 ∧ f ≠ 2 ∧ f ≠ 3 ∧ f ≠ 4) := by omega
  rcases hcs with q | q | q | q | q
  · skip
    refine c_reg ?_ -- region 1 const.go:262
    refine wl (ro_move rfl) ?_
    refine wl (ro_cmp (r := true) rfl rfl (congrArg some ((beqc f 1).trans (decide_eq_true (by omega))))) ?_
    refine wl (ro_move rfl) ?_
    refine wlg_no rfl ?_
    refine wlg_no rfl ?_
    refine wl (ro_pick rfl rfl rfl) ?_
    refine wl (ro_move rfl) ?_
    refine wlg_no rfl ?_
    refine wlg_no rfl ?_
    refine wl (ro_pick rfl rfl rfl) ?_
    refine wl (ro_move rfl) ?_
    refine wlg_no rfl ?_
    refine wlg_no rfl ?_
    refine wl (ro_pick rfl rfl rfl) ?_
    refine wl (ro_assign rfl) ?_
    refine wl_nil (x_then (hK2 _ _ ?_))
    clear hK2 K2
    refine c_ret ?_
    refine bp_ret Tryz.results196 rfl ?_
    exact ⟨by rw [q]; rfl, rfl⟩
  · skip
    refine c_reg ?_ -- region 1 const.go:262
    refine wl (ro_move rfl) ?_
    refine wl (ro_cmp (r := false) rfl rfl (congrArg some ((beqc f 1).trans (decide_eq_false (by omega))))) ?_
    refine wl (ro_move rfl) ?_
    refine wlg_yes rfl (ro_move rfl) ?_
    refine wlg_yes rfl (ro_cmp (r := true) rfl rfl (congrArg some ((beqc f 2).trans (decide_eq_true (by omega))))) ?_
    refine wl (ro_pick rfl rfl rfl) ?_
    refine wl (ro_move rfl) ?_
    refine wlg_no rfl ?_
    refine wlg_no rfl ?_
    refine wl (ro_pick rfl rfl rfl) ?_
    refine wl (ro_move rfl) ?_
    refine wlg_no rfl ?_
    refine wlg_no rfl ?_
    refine wl (ro_pick rfl rfl rfl) ?_
    refine wl (ro_assign rfl) ?_
    refine wl_nil (x_then (hK2 _ _ ?_))
    clear hK2 K2
    refine c_ret ?_
    refine bp_ret Tryz.results196 rfl ?_
    exact ⟨by rw [q]; rfl, rfl⟩
  · skip
    refine c_reg ?_ -- region 1 const.go:262
    refine wl (ro_move rfl) ?_
    refine wl (ro_cmp (r := false) rfl rfl (congrArg some ((beqc f 1).trans (decide_eq_false (by omega))))) ?_
    refine wl (ro_move rfl) ?_
    refine wlg_yes rfl (ro_move rfl) ?_
    refine wlg_yes rfl (ro_cmp (r := false) rfl rfl (congrArg some ((beqc f 2).trans (decide_eq_false (by omega))))) ?_
    refine wl (ro_pick rfl rfl rfl) ?_
    refine wl (ro_move rfl) ?_
    refine wlg_yes rfl (ro_move rfl) ?_
    refine wlg_yes rfl (ro_cmp (r := true) rfl rfl (congrArg some ((beqc f 3).trans (decide_eq_true (by omega))))) ?_
    refine wl (ro_pick rfl rfl rfl) ?_
    refine wl (ro_move rfl) ?_
    refine wlg_no rfl ?_
    refine wlg_no rfl ?_
    refine wl (ro_pick rfl rfl rfl) ?_
    refine wl (ro_assign rfl) ?_
    refine wl_nil (x_then (hK2 _ _ ?_))
    clear hK2 K2
    refine c_ret ?_
    refine bp_ret Tryz.results196 rfl ?_
    exact ⟨by rw [q]; rfl, rfl⟩
  · skip
    refine c_reg ?_ -- region 1 const.go:262
    refine wl (ro_move rfl) ?_
    refine wl (ro_cmp (r := false) rfl rfl (congrArg some ((beqc f 1).trans (decide_eq_false (by omega))))) ?_
    refine wl (ro_move rfl) ?_
    refine wlg_yes rfl (ro_move rfl) ?_
    refine wlg_yes rfl (ro_cmp (r := false) rfl rfl (congrArg some ((beqc f 2).trans (decide_eq_false (by omega))))) ?_
    refine wl (ro_pick rfl rfl rfl) ?_
    refine wl (ro_move rfl) ?_
    refine wlg_yes rfl (ro_move rfl) ?_
    refine wlg_yes rfl (ro_cmp (r := false) rfl rfl (congrArg some ((beqc f 3).trans (decide_eq_false (by omega))))) ?_
    refine wl (ro_pick rfl rfl rfl) ?_
    refine wl (ro_move rfl) ?_
    refine wlg_yes rfl (ro_move rfl) ?_
    refine wlg_yes rfl (ro_cmp (r := true) rfl rfl (congrArg some ((beqc f 4).trans (decide_eq_true (by omega))))) ?_
    refine wl (ro_pick rfl rfl rfl) ?_
    refine wl (ro_assign rfl) ?_
    refine wl_nil (x_then (hK2 _ _ ?_))
    clear hK2 K2
    refine c_ret ?_
    refine bp_ret Tryz.results196 rfl ?_
    exact ⟨by rw [q]; rfl, rfl⟩
  · skip
    refine c_reg ?_ -- region 1 const.go:262
    refine wl (ro_move rfl) ?_
    refine wl (ro_cmp (r := false) rfl rfl (congrArg some ((beqc f 1).trans (decide_eq_false (by omega))))) ?_
    refine wl (ro_move rfl) ?_
    refine wlg_yes rfl (ro_move rfl) ?_
    refine wlg_yes rfl (ro_cmp (r := false) rfl rfl (congrArg some ((beqc f 2).trans (decide_eq_false (by omega))))) ?_
    refine wl (ro_pick rfl rfl rfl) ?_
    refine wl (ro_move rfl) ?_
    refine wlg_yes rfl (ro_move rfl) ?_
    refine wlg_yes rfl (ro_cmp (r := false) rfl rfl (congrArg some ((beqc f 3).trans (decide_eq_false (by omega))))) ?_
    refine wl (ro_pick rfl rfl rfl) ?_
    refine wl (ro_move rfl) ?_
    refine wlg_yes rfl (ro_move rfl) ?_
    refine wlg_yes rfl (ro_cmp (r := false) rfl rfl (congrArg some ((beqc f 4).trans (decide_eq_false (by omega))))) ?_
    refine wl (ro_pick rfl rfl rfl) ?_
    refine wl (ro_assign rfl) ?_
    refine wl_nil (x_then (hK2 _ _ ?_))
    clear hK2 K2
    refine c_ret ?_
    refine bp_ret Tryz.results196 rfl ?_
    exact ⟨by unfold rangeOK; have : decide (1 ≤ f) = false ∨ decide (f ≤ 4) = false := by { simp; omega }; rcases this with h | h <;> simp [h], rfl⟩

/-- What a round leaves: the machine's next state, or a fault. -/
def RnP (B : FB7) (T : List Tk) (dn : Bool) (w' : World) (o : Option PS) : Prop :=
  (∃ st k', o = some st ∧ st.ts = T.drop k' ∧ FW w' B T k' st.ar (ci st.ov) st.os st.hv dn false ∧ st.ov.length ≤ k' ∧ st.os.length ≤ k') ∨ (o = none ∧ ∃ k' ar' ov' os' hv', FW w' B T k' ar' ov' os' hv' dn true)

theorem FW.to {w : World} {B : FB7} {T : List Tk} {k : Nat} {ar ar' : List Nd} {ov ov' : List Int} {os os' : List Mk} {hv dn bad bad' : Bool} (V : FW w B T k ar ov os hv dn bad) (h1 : ar = ar') (h2 : ov = ov') (h3 : os = os') (h4 : bad = bad') : FW w B T k ar' ov' os' hv dn bad' := by subst h1 h2 h3 h4; exact V
theorem RnP.whole {w' : World} {B : FB7} {T ts : List Tk} {k : Nat} {ar : List Nd} {ov : List Nat} {os : List Mk} {dn : Bool} {x : Nd} (V : FW w' B T k (wholeX x false ar (ci ov) os).2.1 (wholeX x false ar (ci ov) os).2.2.1 (wholeX x false ar (ci ov) os).2.2.2 true dn (wholeX x false ar (ci ov) os).1) (hts : ts = T.drop k) (hht : ov.length = nb os) (hk1 : ov.length + 1 ≤ k) (hk2 : os.length ≤ k) : RnP B T dn w' (wholeP x ts ar ov os) := by
  cases hw : wholeP x ts ar ov os with
  | none =>
    have := wholeX_none hht hw
    rw [this] at V
    exact .inr ⟨rfl, _, _, _, _, _, V⟩
  | some st =>
    have hs := wholeX_some hw
    have ht := wholeP_ts hw
    have h9 := settleX_ht (os := os) (bad := (addX false ar x).1) (ar := (addX false ar x).2.1) (ov := (addX false ar x).2.2 :: ci ov) (by simpa [ci] using hht)
    have h9' : (wholeX x false ar (ci ov) os).2.2.2.length ≤ os.length ∧ (wholeX x false ar (ci ov) os).2.2.1.length ≤ ov.length + 1 := ⟨h9.2.1, by have := h9.2.2; simpa [ci, wholeX] using this⟩
    rw [hs] at V h9'
    simp only [ci, List.length_map] at h9'
    refine .inl ⟨st, k, rfl, by rw [ht.1, hts], ?_, by omega, by omega⟩
    rw [ht.2]
    exact V
theorem RnP.bad {w' : World} {B : FB7} {T : List Tk} {k : Nat} {ar : List Nd} {ov : List Int} {os : List Mk} {hv dn : Bool} {o : Option PS} (V : FW w' B T k ar ov os hv dn true) (ho : o = none) : RnP B T dn w' o := .inr ⟨ho, _, _, _, _, _, V⟩

theorem hd_drop {T : List Tk} {k : Nat} (h : (hdT (T.drop k)).k ≠ 0) : k < T.length ∧ T.drop k = hdT (T.drop k) :: T.drop (k + 1) := by
  have hlt : k < T.length := by
    rcases Nat.lt_or_ge k T.length with h' | h'
    · exact h'
    · rw [List.drop_eq_nil_of_le h'] at h; exact absurd rfl h
  refine ⟨hlt, ?_⟩
  rw [List.drop_eq_getElem_cons hlt]
  rfl

set_option maxHeartbeats 4000000 in
theorem ref164 {w : World} {B : FB7} {T : List Tk} {k a te : Nat} {ar : List Nd} {ov : List Nat} {os : List Mk} {dn : Bool} (ho : FBo B) (V : FW w B T k ar (ci ov) os false dn false) (ht : (hdT (T.drop k)).k = 4) (hht : ov.length = nb os) (hk1 : ov.length ≤ k) (hk2 : os.length ≤ k) :
    Ret Tryz.prog 164 [ptr B.f, .agg (tkc a te (hdT (T.drop k))).toArray] w (fun v w' => v = .tuple #[] ∧ RnP B T dn w' (atomP (T.drop k) ar ov os) ∧ Fram (fset B) w w') := by
  have hF : Fram (fset B) w w := Fram.refl _ _
  obtain ⟨pos, er, bd, wi, ft, fa, fv, fo, ⟨hB, hK, hA, hV, hO, htv, hav, hvv, hmv, hkT, hlT, hla⟩, hbad⟩ := V
  obtain ⟨hkl, hdr⟩ := hd_drop (T := T) (k := k) (by omega)
  generalize htt : hdT (T.drop k) = t at ht hdr
  have hat : atomP (T.drop k) ar ov os = refP t.r (T.drop (k + 1)) ar ov os := by rw [hdr]; exact atomP_ref ht
  rw [hat]
  have hcil : (ci ov).length = ov.length := by simp [ci]
  have her : er = 0 := by simpa using hbad
  refine ret_of Tryz.func164 rfl Tryz.ntmps164 rfl ?_
  refine c_seq (fun K1 hK1 => ?_)
  refine c_reg ?_ -- region 0 parse.go:130
  refine wl_box (cs := (tkc a te t)) rfl rfl (fun xb w1 hbxb hX F1 => ?_)
  have hbsxb := Nat.le_trans hF.size hbxb
  have hneB.fxb : B.f < xb := Nat.lt_of_lt_of_le hB.lt hbxb
  have hneB.txb : B.t < xb := Nat.lt_of_lt_of_le hK.lt hbxb
  have hneB.axb : B.a < xb := Nat.lt_of_lt_of_le hA.lt hbxb
  have hneB.vxb : B.v < xb := Nat.lt_of_lt_of_le hV.lt hbxb
  have hneB.oxb : B.o < xb := Nat.lt_of_lt_of_le hO.lt hbxb
  replace hF := hF.thenDrew.thenN F1
  replace hB := F1.blkN hB
  replace hK := F1.blkN hK
  replace hA := F1.blkN hA
  replace hV := F1.blkN hV
  replace hO := F1.blkN hO
  refine wl_nil (x_then (hK1 _ _ ?_))
  clear hK1 K1
  refine forget [(0, _), (3, _)] ⟨rfl, rfl, trivial⟩ (fun e => ?_)
  refine c_seq (fun K2 hK2 => ?_)
  refine c_reg ?_ -- region 1 parse.go:131
  refine wl (ro_assign rfl) ?_
  refine wl_nil (x_then (hK2 _ _ ?_))
  clear hK2 K2
  refine c_mid (fun a' w' => Blk w'.heap B.f (fml B (T.length + 1) k pos ar.length (ci ov).length os.length false dn er bd wi) 83 ∧ FB w'.heap B.t 369 ft 189 ∧ FB w'.heap B.a 312 fa 143 ∧ FB w'.heap B.v 41 fv 3 ∧ FB w'.heap B.o 205 fo 197 ∧ Blk w'.heap xb (tkc a te t) 189 ∧ Fram (fset B) w w' ∧ ∃ e, a' = Fr 78 (upds e [(0, ptr B.f), (3, ptr xb), (4, .bool (rgOf os))]) []) ?_ ?_
  · skip
    refine c_seq (fun K3 hK3 => ?_)
    have hcs : os = [] ∨ (∃ m os', os = m :: os' ∧ m.k ≠ 4) ∨ (∃ m os', os = m :: os' ∧ m.k = 4) := by
      cases os with
      | nil => exact .inl rfl
      | cons m os' =>
        by_cases h : m.k = 4
        · exact .inr (.inr ⟨m, os', rfl, h⟩)
        · exact .inr (.inl ⟨m, os', rfl, h⟩)
    rcases hcs with rfl | ⟨m, os', rfl, hmk⟩ | ⟨m, os', rfl, hmk⟩
    · skip
      refine c_pi [(0, false), (1, false), (2, false), (3, false), (4, false), (5, false), (6, false), (7, false), (8, false), (9, false), (10, false), (11, false), (12, false), (13, false), (14, false), (15, false), (16, false), (17, false), (18, false), (19, false)] (SameH _) mixed (by kernel_rfl) rfl (by kernel_rfl) (po_then (po_then (po_bp))) (sameH_now _ _) ?_ -- region 2 parse.go:132
      refine pi_ro rfl (fun w hS => ro_move rfl) ?_
      refine pi_ro rfl (fun w hS => ro_nilCheck rfl) ?_
      refine pi_ro rfl (fun w hS => ro_fieldAddr (k := 9) rfl fo_83_9) ?_
      refine pi_ro rfl (fun w hS => ro_loadB rfl sc_3 (Blk.of_heap hB hS) (rfl)) ?_
      refine pi_ro rfl (fun w hS => ro_cmp (r := false) rfl rfl rfl) ?_
      refine pi_ro rfl (fun w hS => ro_move rfl) ?_
      refine pi_gno rfl rfl ?_
      refine pi_gno rfl rfl ?_
      refine pi_gno rfl rfl ?_
      refine pi_gno rfl rfl ?_
      refine pi_gno rfl rfl ?_
      refine pi_gno rfl rfl ?_
      refine pi_gno rfl rfl ?_
      refine pi_gno rfl rfl ?_
      refine pi_gno rfl rfl ?_
      refine pi_gno rfl rfl ?_
      refine pi_gno rfl rfl ?_
      refine pi_gno rfl rfl ?_
      refine pi_gno rfl rfl ?_
      refine pi_ro rfl (fun w hS => ro_pick rfl rfl rfl) ?_
      refine pi_nil (x_then (hK3 _ _ ?_))
      clear hK3 K3
      refine wc_condF rfl ?_
      refine c_skip (x_then ?_)
      first
        | exact ⟨hB, hK, hA, hV, hO, hX, hF.thenDrew, kp _ ⟨rfl, rfl, rfl, trivial⟩⟩
        | exact ⟨hB, hK, hA, hV, hO, hX, hF.thenDrew, kp _ ⟨rfl, rfl, by rw [hrg]; rfl, trivial⟩⟩
    · skip
      simp only [List.length_cons] at hk2
      obtain ⟨ma, hcel⟩ := hmv.top
      have hx0 : fo (os'.length * 5 + 0) = i64c m.k := hcel 0 _ rfl
      have hrg : rgOf (m :: os') = false := by simp [rgOf, hmk]
      refine c_pi [(0, false), (1, false), (2, false), (3, false), (4, false), (5, false), (6, false), (7, false), (8, false), (9, false), (10, false), (11, false), (12, false), (13, false), (14, false), (15, false), (16, false), (17, false), (18, false), (19, false)] (SameH _) mixed (by kernel_rfl) rfl (by kernel_rfl) (po_then (po_then (po_bp))) (sameH_now _ _) ?_ -- region 2 parse.go:132
      refine pi_ro rfl (fun w hS => ro_move rfl) ?_
      refine pi_ro rfl (fun w hS => ro_nilCheck rfl) ?_
      refine pi_ro rfl (fun w hS => ro_fieldAddr (k := 9) rfl fo_83_9) ?_
      refine pi_ro rfl (fun w hS => ro_loadB rfl sc_3 (Blk.of_heap hB hS) (rfl)) ?_
      refine pi_ro rfl (fun w hS => ro_cmp (r := true) rfl rfl (congrArg some (decide_eq_true (by show ((os'.length + 1 : Nat) : Int) > 0; omega)))) ?_
      refine pi_ro rfl (fun w hS => ro_move rfl) ?_
      refine pi_gyes rfl rfl (fun w hS => ro_move rfl) ?_
      refine pi_gyes rfl rfl (fun w hS => ro_nilCheck rfl) ?_
      refine pi_gyes rfl rfl (fun w hS => ro_fieldAddr (k := 8) rfl fo_83_8) ?_
      refine pi_gyes rfl rfl (fun w hS => ro_loadB rfl sc_80 (Blk.of_heap hB hS) (rfl)) ?_
      refine pi_gyes rfl rfl (fun w hS => ro_move rfl) ?_
      refine pi_gyes rfl rfl (fun w hS => ro_nilCheck rfl) ?_
      refine pi_gyes rfl rfl (fun w hS => ro_fieldAddr (k := 9) rfl fo_83_9) ?_
      refine pi_gyes rfl rfl (fun w hS => ro_loadB rfl sc_3 (Blk.of_heap hB hS) (rfl)) ?_
      refine pi_gyes rfl rfl (fun w hS => ro_arith (r := (os'.length : Int)) rfl rfl (congrArg some (by show ((os'.length + 1 : Nat) : Int) - 1 = _; omega)) (Go.IntWalk.i64_in _ (by omega))) ?_
      refine pi_gyes rfl rfl (fun w hS => ro_indexAddr (et := 197) (k := 5) rfl rfl se_80 (rfl) ((by omega : os'.length < 41))) ?_
      refine pi_gyes rfl rfl (fun w hS => ro_fieldAddr (k := 0) rfl fo_197_0) ?_
      refine pi_gyes rfl rfl (fun w hS => ro_loadB rfl sc_3 (Blk.of_heap hO hS) (cel_at (k := os'.length * 5 + 0) (by omega) (by omega) hx0)) ?_
      refine pi_gyes rfl rfl (fun w hS => ro_cmp (r := false) rfl rfl (congrArg some ((beqc m.k 4).trans (decide_eq_false hmk)))) ?_
      refine pi_ro rfl (fun w hS => ro_pick rfl rfl rfl) ?_
      refine pi_nil (x_then (hK3 _ _ ?_))
      clear hK3 K3
      refine wc_condF rfl ?_
      refine c_skip (x_then ?_)
      first
        | exact ⟨hB, hK, hA, hV, hO, hX, hF.thenDrew, kp _ ⟨rfl, rfl, rfl, trivial⟩⟩
        | exact ⟨hB, hK, hA, hV, hO, hX, hF.thenDrew, kp _ ⟨rfl, rfl, by rw [hrg]; rfl, trivial⟩⟩
    · skip
      simp only [List.length_cons] at hk2
      obtain ⟨ma, hcel⟩ := hmv.top
      have hx0 : fo (os'.length * 5 + 0) = i64c m.k := hcel 0 _ rfl
      have hx1 : fo (os'.length * 5 + 1) = i64c m.o := hcel 1 _ rfl
      have hrg : rgOf (m :: os') = rangeOK m.o := by simp [rgOf, hmk]
      refine c_pi [(0, false), (1, false), (2, false), (3, false), (4, false), (5, false), (6, false), (7, false), (8, false), (9, false), (10, false), (11, false), (12, false), (13, false), (14, false), (15, false), (16, false), (17, false), (18, false), (19, false)] (SameH _) mixed (by kernel_rfl) rfl (by kernel_rfl) (po_then (po_then (po_bp))) (sameH_now _ _) ?_ -- region 2 parse.go:132
      refine pi_ro rfl (fun w hS => ro_move rfl) ?_
      refine pi_ro rfl (fun w hS => ro_nilCheck rfl) ?_
      refine pi_ro rfl (fun w hS => ro_fieldAddr (k := 9) rfl fo_83_9) ?_
      refine pi_ro rfl (fun w hS => ro_loadB rfl sc_3 (Blk.of_heap hB hS) (rfl)) ?_
      refine pi_ro rfl (fun w hS => ro_cmp (r := true) rfl rfl (congrArg some (decide_eq_true (by show ((os'.length + 1 : Nat) : Int) > 0; omega)))) ?_
      refine pi_ro rfl (fun w hS => ro_move rfl) ?_
      refine pi_gyes rfl rfl (fun w hS => ro_move rfl) ?_
      refine pi_gyes rfl rfl (fun w hS => ro_nilCheck rfl) ?_
      refine pi_gyes rfl rfl (fun w hS => ro_fieldAddr (k := 8) rfl fo_83_8) ?_
      refine pi_gyes rfl rfl (fun w hS => ro_loadB rfl sc_80 (Blk.of_heap hB hS) (rfl)) ?_
      refine pi_gyes rfl rfl (fun w hS => ro_move rfl) ?_
      refine pi_gyes rfl rfl (fun w hS => ro_nilCheck rfl) ?_
      refine pi_gyes rfl rfl (fun w hS => ro_fieldAddr (k := 9) rfl fo_83_9) ?_
      refine pi_gyes rfl rfl (fun w hS => ro_loadB rfl sc_3 (Blk.of_heap hB hS) (rfl)) ?_
      refine pi_gyes rfl rfl (fun w hS => ro_arith (r := (os'.length : Int)) rfl rfl (congrArg some (by show ((os'.length + 1 : Nat) : Int) - 1 = _; omega)) (Go.IntWalk.i64_in _ (by omega))) ?_
      refine pi_gyes rfl rfl (fun w hS => ro_indexAddr (et := 197) (k := 5) rfl rfl se_80 (rfl) ((by omega : os'.length < 41))) ?_
      refine pi_gyes rfl rfl (fun w hS => ro_fieldAddr (k := 0) rfl fo_197_0) ?_
      refine pi_gyes rfl rfl (fun w hS => ro_loadB rfl sc_3 (Blk.of_heap hO hS) (cel_at (k := os'.length * 5 + 0) (by omega) (by omega) hx0)) ?_
      refine pi_gyes rfl rfl (fun w hS => ro_cmp (r := true) rfl rfl (congrArg some ((beqc m.k 4).trans (decide_eq_true hmk)))) ?_
      refine pi_ro rfl (fun w hS => ro_pick rfl rfl rfl) ?_
      refine pi_nil (x_then (hK3 _ _ ?_))
      clear hK3 K3
      refine wc_condT rfl ?_
      refine c_pi [(0, false), (1, false), (2, false), (3, false), (4, false), (5, false), (6, false), (7, false), (8, false), (9, false), (10, false), (11, false), (12, true), (13, false)] (SameH _) mixed (by kernel_rfl) rfl (by kernel_rfl) (po_then (po_bp)) (sameH_now _ _) ?_ -- region 3 parse.go:133
      refine pi_ro rfl (fun w hS => ro_move rfl) ?_
      refine pi_ro rfl (fun w hS => ro_nilCheck rfl) ?_
      refine pi_ro rfl (fun w hS => ro_fieldAddr (k := 8) rfl fo_83_8) ?_
      refine pi_ro rfl (fun w hS => ro_loadB rfl sc_80 (Blk.of_heap hB hS) (rfl)) ?_
      refine pi_ro rfl (fun w hS => ro_move rfl) ?_
      refine pi_ro rfl (fun w hS => ro_nilCheck rfl) ?_
      refine pi_ro rfl (fun w hS => ro_fieldAddr (k := 9) rfl fo_83_9) ?_
      refine pi_ro rfl (fun w hS => ro_loadB rfl sc_3 (Blk.of_heap hB hS) (rfl)) ?_
      refine pi_ro rfl (fun w hS => ro_arith (r := (os'.length : Int)) rfl rfl (congrArg some (by show ((os'.length + 1 : Nat) : Int) - 1 = _; omega)) (Go.IntWalk.i64_in _ (by omega))) ?_
      refine pi_ro rfl (fun w hS => ro_indexAddr (et := 197) (k := 5) rfl rfl se_80 (rfl) ((by omega : os'.length < 41))) ?_
      refine pi_ro rfl (fun w hS => ro_fieldAddr (k := 1) rfl fo_197_1) ?_
      refine pi_ro rfl (fun w hS => ro_loadB rfl sc_3 (Blk.of_heap hO hS) (cel_at (k := os'.length * 5 + 1) (by omega) (by omega) hx1)) ?_
      refine pi_call rfl rfl en_196 (RangeOK196) ?_
      rintro _ _ ⟨rfl, rfl⟩
      refine ⟨rfl, ?_⟩
      refine pi_ro rfl (fun w hS => ro_assign rfl) ?_
      refine pi_nil (x_then ?_)
      first
        | exact ⟨hB, hK, hA, hV, hO, hX, hF.thenDrew, kp _ ⟨rfl, rfl, rfl, trivial⟩⟩
        | exact ⟨hB, hK, hA, hV, hO, hX, hF.thenDrew, kp _ ⟨rfl, rfl, by rw [hrg]; rfl, trivial⟩⟩
  clear hB hK hA hV hO hX hF
  rintro a' w2 ⟨hB, hK, hA, hV, hO, hX, hF, e, rfl⟩
  refine c_seq (fun K4 hK4 => ?_)
  refine c_reg ?_ -- region 4 parse.go:135
  refine wl (ro_move rfl) ?_
  refine wl_call rfl en_161 (take161 ho hkT hlT hB hK htv) ?_
  rintro _ w3 ⟨rfl, ⟨pos1, hB⟩, F3⟩
  replace hF := hF.transG F3 (by intro k hk h; simp only [one, none', fset] at h ⊢ <;> omega)
  replace hK := F3.blkF hK (by intro h; simp only [one, none', fset, ho.all, or_self, false_or, or_false] at h <;> omega)
  replace hA := F3.blkF hA (by intro h; simp only [one, none', fset, ho.all, or_self, false_or, or_false] at h <;> omega)
  replace hV := F3.blkF hV (by intro h; simp only [one, none', fset, ho.all, or_self, false_or, or_false] at h <;> omega)
  replace hO := F3.blkF hO (by intro h; simp only [one, none', fset, ho.all, or_self, false_or, or_false] at h <;> omega)
  replace hX := F3.blkF hX (by intro h; simp only [one, none', fset, ho.all, or_self, false_or, or_false] at h <;> omega)
  refine wl_nil (x_then (hK4 _ _ ?_))
  clear hK4 K4
  refine forget [(0, _), (3, _), (4, _)] ⟨rfl, rfl, rfl, trivial⟩ (fun e => ?_)
  refine c_seq (fun K5 hK5 => ?_)
  refine c_reg ?_ -- region 5 parse.go:136
  refine wl (ro_move rfl) ?_
  refine wl_call rfl en_155 (look155 (k := k + 1) ho (by omega) hlT hB hK htv) ?_
  rintro _ w4 ⟨a1, te1, rfl, ⟨pos2, er2, bd2, her1, her2, hB⟩, F4⟩
  replace hF := hF.transG F4 (by intro k hk h; simp only [one, none', fset] at h ⊢ <;> omega)
  replace hK := F4.blkF hK (by intro h; simp only [one, none', fset, ho.all, or_self, false_or, or_false] at h <;> omega)
  replace hA := F4.blkF hA (by intro h; simp only [one, none', fset, ho.all, or_self, false_or, or_false] at h <;> omega)
  replace hV := F4.blkF hV (by intro h; simp only [one, none', fset, ho.all, or_self, false_or, or_false] at h <;> omega)
  replace hO := F4.blkF hO (by intro h; simp only [one, none', fset, ho.all, or_self, false_or, or_false] at h <;> omega)
  replace hX := F4.blkF hX (by intro h; simp only [one, none', fset, ho.all, or_self, false_or, or_false] at h <;> omega)
  generalize hcc : hdT (T.drop (k + 1)) = c1 at her1 her2
  refine wl_new (ze_189) (fun cb w2 hbcb hC F2 => ?_)
  have hbscb := Nat.le_trans hF.size hbcb
  have hneB.fcb : B.f < cb := Nat.lt_of_lt_of_le hB.lt hbcb
  have hneB.tcb : B.t < cb := Nat.lt_of_lt_of_le hK.lt hbcb
  have hneB.acb : B.a < cb := Nat.lt_of_lt_of_le hA.lt hbcb
  have hneB.vcb : B.v < cb := Nat.lt_of_lt_of_le hV.lt hbcb
  have hneB.ocb : B.o < cb := Nat.lt_of_lt_of_le hO.lt hbcb
  have hnexbcb : xb < cb := Nat.lt_of_lt_of_le hX.lt hbcb
  replace hF := hF.thenDrew.thenN F2
  replace hB := F2.blkN hB
  replace hK := F2.blkN hK
  replace hA := F2.blkN hA
  replace hV := F2.blkN hV
  replace hO := F2.blkN hO
  replace hX := F2.blkN hX
  refine wl_puta rfl rfl ((tkc_cells a1 te1 c1)) sz_189 (rfl) hC ((by simp)) (rfl) (fun w3 hC F3 => ?_)
  replace hF := hF.thenDrew.thenO F3 (by first | exact .inr (by omega) | exact .inl rfl | exact .inl (by assumption))
  replace hB := F3.blkO hB (by first | (simp only [ne_eq, ho.all, not_false_eq_true]; done) | omega)
  replace hK := F3.blkO hK (by first | (simp only [ne_eq, ho.all, not_false_eq_true]; done) | omega)
  replace hA := F3.blkO hA (by first | (simp only [ne_eq, ho.all, not_false_eq_true]; done) | omega)
  replace hV := F3.blkO hV (by first | (simp only [ne_eq, ho.all, not_false_eq_true]; done) | omega)
  replace hO := F3.blkO hO (by first | (simp only [ne_eq, ho.all, not_false_eq_true]; done) | omega)
  replace hX := F3.blkO hX (by first | (simp only [ne_eq, ho.all, not_false_eq_true]; done) | omega)
  refine wl_nil (x_then (hK5 _ _ ?_))
  clear hK5 K5
  refine c_seq (fun K6 hK6 => ?_)
  refine c_seq (fun K7 hK7 => ?_)
  refine c_reg ?_ -- region 6 parse.go:137
  refine wl (ro_fieldAddr (k := 0) rfl fo_189_0) ?_
  refine wl (ro_loadB rfl sc_3 (hC) (rfl)) ?_
  refine wl (ro_cmp (r := decide (c1.k ≠ 58)) rfl rfl (congrArg some (bnec c1.k 58))) ?_
  refine wl_nil (x_then (hK7 _ _ ?_))
  clear hK7 K7
  refine wc_cond rfl (fun hc46 => ?_) (fun hc46 => ?_)
  · try simp only [decide_eq_true_eq, decide_eq_false_iff_not, Bool.not_eq_true', Bool.not_eq_false', Bool.not_eq_eq_eq_not, Bool.not_true, Bool.not_false, beq_iff_eq, bne_iff_ne, ne_eq, beq_eq_false_iff_ne, bne_eq_false_iff_eq, gt_iff_lt, ge_iff_le, Int.not_lt, Int.not_le] at hc46
    have V4 : FW _ B T (k + 1) ar (ci ov) os false dn (decide (c1.k = 1)) := ⟨_, _, _, _, _, _, _, _, ⟨hB, hK, hA, hV, hO, htv, hav, hvv, hmv, by omega, hlT, hla⟩, by
      by_cases h1 : c1.k = 1
      · have := her1 h1; simp [h1, this]
      · have := her2 h1; simp [h1, this, her]⟩
    refine c_seq (fun K8 hK8 => ?_)
    refine c_reg ?_ -- region 7 parse.go:138
    refine wl (ro_move rfl) ?_
    refine wl (ro_fieldAddr (k := 5) rfl fo_189_5) ?_
    refine wl (ro_loadAggB rfl ag_141 (hX) (rfl) (rfl)) ?_
    refine wl (ro_build rfl bld_143_0_2_3_5) ?_
    refine wl_call rfl en_163 (whole163 (x := nRef t.r) ho V4 (by rw [hcil]; exact hht) (by rw [hcil]; omega) (by omega)) ?_
    rintro _ w7 ⟨rfl, V7, F7⟩
    replace hF := hF.transG F7 (fun k _ h ↦ h)
    refine wl_nil (x_then (hK8 _ _ ?_))
    clear hK8 K8
    refine c_ret (x_thenR ?_)
    refine bp_ret Tryz.results164 rfl ?_
    refine ⟨rfl, ?_, hF⟩
    unfold refP
    rw [hcc]
    by_cases h1 : c1.k = 1
    · rw [if_pos h1]
      have hb : decide (c1.k = 1) = true := by simpa using h1
      rw [hb, wholeX_bad] at V7
      exact RnP.bad V7 rfl
    · rw [if_neg h1, if_neg hc46]
      have hb : decide (c1.k = 1) = false := by simpa using h1
      rw [hb] at V7
      exact RnP.whole V7 rfl hht (by omega) (by omega)
  · try simp only [decide_eq_true_eq, decide_eq_false_iff_not, Bool.not_eq_true', Bool.not_eq_false', Bool.not_eq_eq_eq_not, Bool.not_true, Bool.not_false, beq_iff_eq, bne_iff_ne, ne_eq, beq_eq_false_iff_ne, bne_eq_false_iff_eq, gt_iff_lt, ge_iff_le, Int.not_lt, Int.not_le] at hc46
    have h58 : c1.k = 58 := by omega
    obtain ⟨hkl1, hdr1⟩ := hd_drop (T := T) (k := k + 1) (by rw [hcc]; omega)
    have her3 : er2 = er := her2 (by omega)
    rw [her3] at hB
    have htl : (T.drop (k + 1)).tail = T.drop (k + 2) := by rw [hdr1]; rfl
    have htl2 : (T.drop (k + 1)).tail.tail = T.drop (k + 3) := by rw [htl, ← List.drop_one, List.drop_drop]
    refine c_skip (x_then (hK6 _ _ ?_))
    clear hK6 K6
    refine forget [(0, _), (3, _), (4, _)] ⟨rfl, rfl, rfl, trivial⟩ (fun e => ?_)
    refine c_seq (fun K9 hK9 => ?_)
    refine c_reg ?_ -- region 8 parse.go:141
    refine wl (ro_move rfl) ?_
    refine wl_call rfl en_161 (take161 (k := k + 1) ho (by omega) hlT hB hK htv) ?_
    rintro _ w5 ⟨rfl, ⟨pos3, hB⟩, F5⟩
    replace hF := hF.transG F5 (by intro k hk h; simp only [one, none', fset] at h ⊢ <;> omega)
    replace hK := F5.blkF hK (by intro h; simp only [one, none', fset, ho.all, or_self, false_or, or_false] at h <;> omega)
    replace hA := F5.blkF hA (by intro h; simp only [one, none', fset, ho.all, or_self, false_or, or_false] at h <;> omega)
    replace hV := F5.blkF hV (by intro h; simp only [one, none', fset, ho.all, or_self, false_or, or_false] at h <;> omega)
    replace hO := F5.blkF hO (by intro h; simp only [one, none', fset, ho.all, or_self, false_or, or_false] at h <;> omega)
    replace hX := F5.blkF hX (by intro h; simp only [one, none', fset, ho.all, or_self, false_or, or_false] at h <;> omega)
    replace hC := F5.blkF hC (by intro h; simp only [one, none', fset, ho.all, or_self, false_or, or_false] at h <;> omega)
    refine wl_nil (x_then (hK9 _ _ ?_))
    clear hK9 K9
    refine forget [(0, _), (3, _), (4, _)] ⟨rfl, rfl, rfl, trivial⟩ (fun e => ?_)
    refine c_seq (fun K10 hK10 => ?_)
    refine c_reg ?_ -- region 9 parse.go:142
    refine wl (ro_move rfl) ?_
    refine wl_call rfl en_155 (look155 (k := k + 2) ho (by omega) hlT hB hK htv) ?_
    rintro _ w6 ⟨a2, te2, rfl, ⟨pos4, er4, bd4, her5, her6, hB⟩, F6⟩
    replace hF := hF.transG F6 (by intro k hk h; simp only [one, none', fset] at h ⊢ <;> omega)
    replace hK := F6.blkF hK (by intro h; simp only [one, none', fset, ho.all, or_self, false_or, or_false] at h <;> omega)
    replace hA := F6.blkF hA (by intro h; simp only [one, none', fset, ho.all, or_self, false_or, or_false] at h <;> omega)
    replace hV := F6.blkF hV (by intro h; simp only [one, none', fset, ho.all, or_self, false_or, or_false] at h <;> omega)
    replace hO := F6.blkF hO (by intro h; simp only [one, none', fset, ho.all, or_self, false_or, or_false] at h <;> omega)
    replace hX := F6.blkF hX (by intro h; simp only [one, none', fset, ho.all, or_self, false_or, or_false] at h <;> omega)
    replace hC := F6.blkF hC (by intro h; simp only [one, none', fset, ho.all, or_self, false_or, or_false] at h <;> omega)
    generalize hcu : hdT (T.drop (k + 2)) = c2 at her5 her6
    refine wl_new (ze_189) (fun ub w4 hbub hU F4 => ?_)
    have hbsub := Nat.le_trans hF.size hbub
    have hneB.fub : B.f < ub := Nat.lt_of_lt_of_le hB.lt hbub
    have hneB.tub : B.t < ub := Nat.lt_of_lt_of_le hK.lt hbub
    have hneB.aub : B.a < ub := Nat.lt_of_lt_of_le hA.lt hbub
    have hneB.vub : B.v < ub := Nat.lt_of_lt_of_le hV.lt hbub
    have hneB.oub : B.o < ub := Nat.lt_of_lt_of_le hO.lt hbub
    have hnexbub : xb < ub := Nat.lt_of_lt_of_le hX.lt hbub
    have hnecbub : cb < ub := Nat.lt_of_lt_of_le hC.lt hbub
    replace hF := hF.thenDrew.thenN F4
    replace hB := F4.blkN hB
    replace hK := F4.blkN hK
    replace hA := F4.blkN hA
    replace hV := F4.blkN hV
    replace hO := F4.blkN hO
    replace hX := F4.blkN hX
    replace hC := F4.blkN hC
    refine wl_puta rfl rfl ((tkc_cells a2 te2 c2)) sz_189 (rfl) hU ((by simp)) (rfl) (fun w5 hU F5 => ?_)
    replace hF := hF.thenDrew.thenO F5 (by first | exact .inr (by omega) | exact .inl rfl | exact .inl (by assumption))
    replace hB := F5.blkO hB (by first | (simp only [ne_eq, ho.all, not_false_eq_true]; done) | omega)
    replace hK := F5.blkO hK (by first | (simp only [ne_eq, ho.all, not_false_eq_true]; done) | omega)
    replace hA := F5.blkO hA (by first | (simp only [ne_eq, ho.all, not_false_eq_true]; done) | omega)
    replace hV := F5.blkO hV (by first | (simp only [ne_eq, ho.all, not_false_eq_true]; done) | omega)
    replace hO := F5.blkO hO (by first | (simp only [ne_eq, ho.all, not_false_eq_true]; done) | omega)
    replace hX := F5.blkO hX (by first | (simp only [ne_eq, ho.all, not_false_eq_true]; done) | omega)
    replace hC := F5.blkO hC (by first | (simp only [ne_eq, ho.all, not_false_eq_true]; done) | omega)
    refine wl_nil (x_then (hK10 _ _ ?_))
    clear hK10 K10
    refine c_seq (fun K11 hK11 => ?_)
    refine c_seq (fun K12 hK12 => ?_)
    refine c_reg ?_ -- region 10 parse.go:143
    refine wl (ro_fieldAddr (k := 0) rfl fo_189_0) ?_
    refine wl (ro_loadB rfl sc_3 (hU) (rfl)) ?_
    refine wl (ro_cmp (r := decide (c2.k ≠ 4)) rfl rfl (congrArg some (bnec c2.k 4))) ?_
    refine wl_nil (x_then (hK12 _ _ ?_))
    clear hK12 K12
    refine wc_cond rfl (fun hc58 => ?_) (fun hc58 => ?_)
    · try simp only [decide_eq_true_eq, decide_eq_false_iff_not, Bool.not_eq_true', Bool.not_eq_false', Bool.not_eq_eq_eq_not, Bool.not_true, Bool.not_false, beq_iff_eq, bne_iff_ne, ne_eq, beq_eq_false_iff_ne, bne_eq_false_iff_eq, gt_iff_lt, ge_iff_le, Int.not_lt, Int.not_le] at hc58
      refine c_seq (fun K13 hK13 => ?_)
      refine c_reg ?_ -- region 11 parse.go:144
      refine wl (ro_move rfl) ?_
      refine wl (ro_fieldAddr (k := 1) rfl fo_189_1) ?_
      refine wl (ro_loadB rfl sc_3 (hU) (rfl)) ?_
      refine wl_call rfl en_160 (fail160 (by decide) hB) ?_
      rintro _ w8 ⟨rfl, ⟨er7, bd7, hne7, hB⟩, F8⟩
      replace hF := hF.transG F8 (by intro k hk h; simp only [one, none', fset] at h ⊢ <;> omega)
      replace hK := F8.blkF hK (by intro h; simp only [one, none', fset, ho.all, or_self, false_or, or_false] at h <;> omega)
      replace hA := F8.blkF hA (by intro h; simp only [one, none', fset, ho.all, or_self, false_or, or_false] at h <;> omega)
      replace hV := F8.blkF hV (by intro h; simp only [one, none', fset, ho.all, or_self, false_or, or_false] at h <;> omega)
      replace hO := F8.blkF hO (by intro h; simp only [one, none', fset, ho.all, or_self, false_or, or_false] at h <;> omega)
      replace hX := F8.blkF hX (by intro h; simp only [one, none', fset, ho.all, or_self, false_or, or_false] at h <;> omega)
      replace hC := F8.blkF hC (by intro h; simp only [one, none', fset, ho.all, or_self, false_or, or_false] at h <;> omega)
      replace hU := F8.blkF hU (by intro h; simp only [one, none', fset, ho.all, or_self, false_or, or_false] at h <;> omega)
      refine wl_nil (x_then (hK13 _ _ ?_))
      clear hK13 K13
      refine c_ret (x_thenR ?_)
      refine bp_ret Tryz.results164 rfl ?_
      refine ⟨rfl, RnP.bad (k := k + 2) (ar := ar) (ov := ci ov) (os := os) (hv := false) ⟨_, _, _, _, _, _, _, _, ⟨hB, hK, hA, hV, hO, htv, hav, hvv, hmv, by omega, hlT, hla⟩, by simpa using hne7⟩ ?_, hF⟩
      unfold refP
      rw [hcc, if_neg (by omega), if_pos h58, htl, hcu, if_neg (fun h => hc58 h.1)]
    · try simp only [decide_eq_true_eq, decide_eq_false_iff_not, Bool.not_eq_true', Bool.not_eq_false', Bool.not_eq_eq_eq_not, Bool.not_true, Bool.not_false, beq_iff_eq, bne_iff_ne, ne_eq, beq_eq_false_iff_ne, bne_eq_false_iff_eq, gt_iff_lt, ge_iff_le, Int.not_lt, Int.not_le] at hc58
      have h4 : c2.k = 4 := by omega
      obtain ⟨hkl2, hdr2⟩ := hd_drop (T := T) (k := k + 2) (by rw [hcu]; omega)
      have her7 : er4 = er := her6 (by omega)
      rw [her7] at hB
      refine c_skip (x_then (hK11 _ _ ?_))
      clear hK11 K11
      refine forget [(0, _), (3, _), (4, _), (6, _)] ⟨rfl, rfl, rfl, rfl, trivial⟩ (fun e => ?_)
      refine c_seq (fun K14 hK14 => ?_)
      refine c_reg ?_ -- region 12 parse.go:147
      refine wl (ro_move rfl) ?_
      refine wl_call rfl en_161 (take161 (k := k + 2) ho (by omega) hlT hB hK htv) ?_
      rintro _ w8 ⟨rfl, ⟨pos5, hB⟩, F8⟩
      replace hF := hF.transG F8 (by intro k hk h; simp only [one, none', fset] at h ⊢ <;> omega)
      replace hK := F8.blkF hK (by intro h; simp only [one, none', fset, ho.all, or_self, false_or, or_false] at h <;> omega)
      replace hA := F8.blkF hA (by intro h; simp only [one, none', fset, ho.all, or_self, false_or, or_false] at h <;> omega)
      replace hV := F8.blkF hV (by intro h; simp only [one, none', fset, ho.all, or_self, false_or, or_false] at h <;> omega)
      replace hO := F8.blkF hO (by intro h; simp only [one, none', fset, ho.all, or_self, false_or, or_false] at h <;> omega)
      replace hX := F8.blkF hX (by intro h; simp only [one, none', fset, ho.all, or_self, false_or, or_false] at h <;> omega)
      replace hC := F8.blkF hC (by intro h; simp only [one, none', fset, ho.all, or_self, false_or, or_false] at h <;> omega)
      replace hU := F8.blkF hU (by intro h; simp only [one, none', fset, ho.all, or_self, false_or, or_false] at h <;> omega)
      refine wl_nil (x_then (hK14 _ _ ?_))
      clear hK14 K14
      refine c_seq (fun K15 hK15 => ?_)
      refine c_seq (fun K16 hK16 => ?_)
      refine c_reg ?_ -- region 13 parse.go:148
      refine wl (ro_move rfl) ?_
      refine wl (ro_not rfl) ?_
      refine wl_nil (x_then (hK16 _ _ ?_))
      clear hK16 K16
      simp only [Bool.not_eq_true']
      refine wc_cond rfl (fun hc66 => ?_) (fun hc66 => ?_)
      · try simp only [decide_eq_true_eq, decide_eq_false_iff_not, Bool.not_eq_true', Bool.not_eq_false', Bool.not_eq_eq_eq_not, Bool.not_true, Bool.not_false, beq_iff_eq, bne_iff_ne, ne_eq, beq_eq_false_iff_ne, bne_eq_false_iff_eq, gt_iff_lt, ge_iff_le, Int.not_lt, Int.not_le] at hc66
        refine c_seq (fun K17 hK17 => ?_)
        refine c_reg ?_ -- region 14 parse.go:149
        refine wl (ro_move rfl) ?_
        refine wl (ro_fieldAddr (k := 1) rfl fo_189_1) ?_
        refine wl (ro_loadB rfl sc_3 (hX) (rfl)) ?_
        refine wl_call rfl en_160 (fail160 (by decide) hB) ?_
        rintro _ w9 ⟨rfl, ⟨er7, bd7, hne7, hB⟩, F9⟩
        replace hF := hF.transG F9 (by intro k hk h; simp only [one, none', fset] at h ⊢ <;> omega)
        replace hK := F9.blkF hK (by intro h; simp only [one, none', fset, ho.all, or_self, false_or, or_false] at h <;> omega)
        replace hA := F9.blkF hA (by intro h; simp only [one, none', fset, ho.all, or_self, false_or, or_false] at h <;> omega)
        replace hV := F9.blkF hV (by intro h; simp only [one, none', fset, ho.all, or_self, false_or, or_false] at h <;> omega)
        replace hO := F9.blkF hO (by intro h; simp only [one, none', fset, ho.all, or_self, false_or, or_false] at h <;> omega)
        replace hX := F9.blkF hX (by intro h; simp only [one, none', fset, ho.all, or_self, false_or, or_false] at h <;> omega)
        replace hC := F9.blkF hC (by intro h; simp only [one, none', fset, ho.all, or_self, false_or, or_false] at h <;> omega)
        replace hU := F9.blkF hU (by intro h; simp only [one, none', fset, ho.all, or_self, false_or, or_false] at h <;> omega)
        refine wl_nil (x_then (hK17 _ _ ?_))
        clear hK17 K17
        refine c_ret (x_thenR ?_)
        refine bp_ret Tryz.results164 rfl ?_
        refine ⟨rfl, RnP.bad (k := k + 3) (ar := ar) (ov := ci ov) (os := os) (hv := false) ⟨_, _, _, _, _, _, _, _, ⟨hB, hK, hA, hV, hO, htv, hav, hvv, hmv, by omega, hlT, hla⟩, by simpa using hne7⟩ ?_, hF⟩
        unfold refP
        rw [hcc, if_neg (by omega), if_pos h58, htl, hcu, if_neg (fun h => by rw [h.2] at hc66; cases hc66)]
      · try simp only [decide_eq_true_eq, decide_eq_false_iff_not, Bool.not_eq_true', Bool.not_eq_false', Bool.not_eq_eq_eq_not, Bool.not_true, Bool.not_false, beq_iff_eq, bne_iff_ne, ne_eq, beq_eq_false_iff_ne, bne_eq_false_iff_eq, gt_iff_lt, ge_iff_le, Int.not_lt, Int.not_le] at hc66
        have hrgt : rgOf os = true := by simpa using hc66
        have V9 : FW _ B T (k + 3) ar (ci ov) os false dn false := ⟨_, _, _, _, _, _, _, _, ⟨hB, hK, hA, hV, hO, htv, hav, hvv, hmv, by omega, hlT, hla⟩, by simp [her]⟩
        refine c_skip (x_then (hK15 _ _ ?_))
        clear hK15 K15
        refine c_reg ?_ -- region 15 parse.go:152
        refine wl (ro_move rfl) ?_
        refine wl (ro_fieldAddr (k := 5) rfl fo_189_5) ?_
        refine wl (ro_loadAggB rfl ag_141 (hX) (rfl) (rfl)) ?_
        refine wl (ro_fieldAddr (k := 5) rfl fo_189_5) ?_
        refine wl (ro_loadAggB rfl ag_141 (hU) (rfl) (rfl)) ?_
        refine wl (ro_build rfl bld_143_0_2_3_5_6) ?_
        refine wl_call rfl en_163 (whole163 (x := nRng t.r c2.r) ho V9 (by rw [hcil]; exact hht) (by rw [hcil]; omega) (by omega)) ?_
        rintro _ w10 ⟨rfl, V10, F10⟩
        replace hF := hF.transG F10 (fun k _ h ↦ h)
        refine wl_nil ?_
        refine bp_end Tryz.results164 rfl ?_
        refine ⟨rfl, ?_, hF⟩
        unfold refP
        rw [hcc, if_neg (by omega), if_pos h58, htl, hcu, if_pos ⟨h4, hrgt⟩]
        refine RnP.whole V10 ?_ hht (by omega) (by omega)
        rw [← htl, htl2]

end Go.Proofs.Qxb6500570aGreat
