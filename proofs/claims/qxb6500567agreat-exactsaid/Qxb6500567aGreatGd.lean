import Derived.Test.Qxb6500567aGreatGc
/- The definition of matching: turns. -/
namespace Go.Proofs.Qxb6500567aGreat
set_option linter.unusedVariables false
set_option linter.unusedSimpArgs false

/-- The ways of node k are told aright. -/
def WaysOK (s : List UInt8) (nb cap : Nat) (T : List RE) (c : Nat → Value) (z1 z2 z3 z4 : Value) (k : Nat) : Prop := ∀ {w : World} {r : RE} {i : Nat} {cc : List Int}, FB w.heap nb (cap * 11) c 89 → T[k]? = some r → WF r → i ≤ s.length → CapsOK s.length cc →
    Ret Tryz.prog 121 [.agg (trc nb T.length cap z1 z2 z3 z4).toArray, S s, i64c k, i64c i, .agg (capc cc).toArray] w (fun v w' => WV w' v (dd (all s r i cc)) w.heap.size w'.heap.size ∧ Fram none' w w')

theorem wv_one' {w1 : World} {b : Nat} {x : Way} (h : Own w1.heap (.slice (some ⟨b, 0, none⟩) 1 1) 215 9 1 (wcl x)) : WV w1 (.slice (some ⟨b, 0, none⟩) 1 1) [x] b (b + 1) :=
  ⟨by rw [wcs_one]; exact h, fun c hc => by simp [Value.ownBlock] at hc; omega, fun c hc => by simp [Value.ownBlock] at hc; omega⟩

theorem tm_next {mn : Nat} {mx : Option Nat} {n count i x1 f : Nat} (h : tm mn mx n count i ≤ f + 1) (hi : i ≤ x1) (hx : x1 ≤ n) (hns : ¬ (mn ≤ count ∧ ∃ m, mx = some m ∧ m ≤ count)) (hc : count < nxt mn mx count ∨ i < x1) : tm mn mx n (nxt mn mx count) x1 ≤ f := by
  unfold nxt at hc ⊢
  unfold tm at h ⊢
  cases mx with
  | none =>
    by_cases h1 : mn ≤ count
    · rw [if_pos ⟨h1, rfl⟩] at hc ⊢
      simp only [Option.getD_none] at h ⊢
      omega
    · rw [if_neg (fun h' => h1 h'.1)]
      simp only [Option.getD_none] at h ⊢
      omega
  | some m =>
    rw [if_neg (fun h' => by cases h'.2)]
    simp only [Option.getD_some] at h ⊢
    by_cases h1 : mn ≤ count
    · have : count < m := by
        rcases Nat.lt_or_ge count m with h2 | h2
        · exact h2
        · exact absurd ⟨h1, m, rfl, h2⟩ hns
      omega
    · omega

theorem nxt_le {mn : Nat} {mx : Option Nat} {count : Nat} (hmn : mn ≤ 3) (hmx : ∀ m, mx = some m → m ≤ 3) (hc : count ≤ 3) (hns : ¬ (mn ≤ count ∧ ∃ m, mx = some m ∧ m ≤ count)) : nxt mn mx count ≤ 3 := by
  unfold nxt
  split
  · exact hc
  · rename_i h
    by_cases h1 : mn ≤ count
    · cases mx with
      | none => exact absurd ⟨h1, rfl⟩ h
      | some m =>
        have : count < m := by
          rcases Nat.lt_or_ge count m with h2 | h2
          · exact h2
          · exact absurd ⟨h1, m, rfl, h2⟩ hns
        have := hmx m rfl
        omega
    · omega

theorem foldl_take {α β : Type} (f : β → α → β) (L : List α) (k : Nat) (x : α) (b : β) (h : L[k]? = some x) : (L.take (k + 1)).foldl f b = f ((L.take k).foldl f b) x := by
  rw [List.take_add_one, h]
  simp

set_option maxHeartbeats 4000000 in
theorem turns137 {s : List UInt8} {nb cap : Nat} {T : List RE} {c : Nat → Value} {z1 z2 z3 z4 : Value} {k i0 : Nat} {ff : Operand} {ps : Array Nat} {x a : RE} (hs256 : s.length ≤ 256) (hle : T.length ≤ cap) (hkl : k < T.length) (hcs : cel 11 (fun j => c (0 + 11 * k + j)) = ndc 6 i0 (-1) (rmn x) (mxI (rmx x)) 0 (rlz x) 0) (hia : T[i0]? = some a) (hwa : WF a) (hcn : rmn x ≤ 3 ∧ ∀ m, rmx x = some m → rmn x ≤ m ∧ m ≤ 3) (hW : WaysOK s nb cap T c z1 z2 z3 z4 i0) :
    ∀ (f : Nat) {count i : Nat} {cc : List Int} {w : World}, tm (rmn x) (rmx x) s.length count i ≤ f → i ≤ s.length → count ≤ 3 → CapsOK s.length cc → FB w.heap nb (cap * 11) c 89 →
    Ret Tryz.prog 137 [.agg (trc nb T.length cap z1 z2 z3 z4).toArray, S s, i64c k, i64c count, i64c i, .agg (capc cc).toArray] w (fun v w' => WV w' v (dd (tn (all s a) (rmn x) (rmx x) (rlz x) f count i cc)) w.heap.size w'.heap.size ∧ Fram none' w w') := by
  intro f
  induction f with
  | zero => intro count i cc w h hi; unfold tm at h; omega
  | succ f ih =>
  intro count i cc w htm hi hc3 hcc hT
  have hF : Fram none' w w := Fram.refl _ _
  have hld := nd_load (cap := cap) (k := k) (by omega) hcs
  have hD := dd_turns (f := all s a) (mn := rmn x) (mx := rmx x) (lz := rlz x) (all_ends a) f count i cc
  generalize hR : dd (tn (all s a) (rmn x) (rmx x) (rlz x) (f + 1) count i cc) = R at hD
  generalize hLA : dd (all s a i cc) = LA at hD
  have hLAm : ∀ y ∈ LA, y ∈ all s a i cc := fun y hy => dd_mem (by rw [hLA]; exact hy)
  have hLAb : ∀ y ∈ LA, i ≤ y.1 ∧ y.1 ≤ s.length := fun y hy => all_bnd a i cc hi y (hLAm y hy)
  have hLAc : ∀ y ∈ LA, CapsOK s.length y.2 := fun y hy => all_caps a i cc hwa hi hcc y (hLAm y hy)
  have hLAl : LA.length ≤ s.length + 1 := by rw [← hLA]; exact dd_le (fun y hy => (all_bnd a i cc hi y hy).2)
  obtain ⟨M, hM⟩ : ∃ M : Int, mxI (rmx x) = M := ⟨_, rfl⟩
  rw [hM] at hld
  have hMs : (∃ m, rmx x = some m ∧ m ≤ count) ↔ (0 ≤ M ∧ M ≤ count) := by
    rw [← hM]
    cases rmx x with
    | none => simp [mxI]
    | some m => simp only [mxI, Option.some.injEq, exists_eq_left']; omega
  have hMn : rmx x = none ↔ M < 0 := by
    rw [← hM]
    cases rmx x with
    | none => simp [mxI]
    | some m => simp only [mxI]; constructor <;> intro h; cases h; omega
  generalize hnx : nxt (rmn x) (rmx x) count = nx at hD
  have hnx' : nx = if rmn x ≤ count ∧ M < 0 then count else count + 1 := by rw [← hnx]; unfold nxt; simp only [hMn]
  have htb : ∀ (y : Way), y.1 ≤ s.length → ∀ u ∈ dd (tn (all s a) (rmn x) (rmx x) (rlz x) f nx y.1 y.2), u.1 ≤ s.length := fun y hy u hu => (tn_bnd (fun i c hi => all_bnd a i c hi) f nx y.1 y.2 hy u (dd_mem hu)).2
  have htl : ∀ (y : Way), y.1 ≤ s.length → (dd (tn (all s a) (rmn x) (rmx x) (rlz x) f nx y.1 y.2)).length ≤ s.length + 1 := fun y hy => dd_le (fun u hu => (tn_bnd (fun i c hi => all_bnd a i c hi) f nx y.1 y.2 hy u hu).2)
  let G : List Way → Way → List Way := fun o y => jn o (if count < nx ∨ i < y.1 then dd (tn (all s a) (rmn x) (rmx x) (rlz x) f nx y.1 y.2) else [])
  have hG : ∀ o y, G o y = jn o (if count < nx ∨ i < y.1 then dd (tn (all s a) (rmn x) (rmx x) (rlz x) f nx y.1 y.2) else []) := fun _ _ => rfl
  have hfl : ∀ k, k ≤ LA.length → (∀ u ∈ (LA.take k).foldl G [], u.1 ≤ s.length) ∧ ((LA.take k).foldl G []).length ≤ s.length + 1 := by
    intro k hk
    have e1 : (LA.take k).foldl G [] = dd ((LA.take k).flatMap (fun y => if count < nx ∨ i < y.1 then tn (all s a) (rmn x) (rmx x) (rlz x) f nx y.1 y.2 else [])) := by
      have := fold_dd (f := fun y => if count < nx ∨ i < y.1 then tn (all s a) (rmn x) (rmx x) (rlz x) f nx y.1 y.2 else []) (LA.take k) []
      rw [List.nil_append] at this
      rw [← this]
      show (LA.take k).foldl G [] = _
      congr 1
      funext o y
      rw [hG]
      split <;> rfl
    have hb : ∀ u ∈ (LA.take k).flatMap (fun y => if count < nx ∨ i < y.1 then tn (all s a) (rmn x) (rmx x) (rlz x) f nx y.1 y.2 else []), u.1 ≤ s.length := by
      intro u hu
      obtain ⟨y, hy, hu⟩ := List.mem_flatMap.1 hu
      split at hu
      · exact (tn_bnd (fun i c hi => all_bnd a i c hi) f nx y.1 y.2 (hLAb y (List.mem_of_mem_take hy)).2 u hu).2
      · simp at hu
    rw [e1]
    exact ⟨fun u hu => hb u (dd_mem hu), dd_le hb⟩
  have hD2 : R = if rmn x ≤ count ∧ (0 ≤ M ∧ M ≤ count) then [(i, cc)] else if count < rmn x then LA.foldl G [] else if rlz x then jn [(i, cc)] (LA.foldl G []) else jn (LA.foldl G []) [(i, cc)] := by
    rw [hD]
    simp only [hMs]
    rfl
  clear hD
  refine ret_of Tryz.func137 rfl Tryz.ntmps137 rfl ?_
  refine c_seq (fun K1 hK1 => ?_)
  refine c_reg ?_ -- region 0 match.go:58
  refine wl_box (cs := (trc nb T.length cap z1 z2 z3 z4)) rfl rfl (fun ab w1 hbab hA F1 => ?_)
  have hbsab := Nat.le_trans hF.size hbab
  have hnenbab : nb < ab := Nat.lt_of_lt_of_le hT.lt hbab
  replace hF := hF.thenDrew.thenN F1
  replace hT := F1.blkN hT
  refine wl_box (cs := (capc cc)) rfl rfl (fun cb w2 hbcb hC F2 => ?_)
  have hbscb := Nat.le_trans hF.size hbcb
  have hnenbcb : nb < cb := Nat.lt_of_lt_of_le hT.lt hbcb
  have hneabcb : ab < cb := Nat.lt_of_lt_of_le hA.lt hbcb
  replace hF := hF.thenDrew.thenN F2
  replace hT := F2.blkN hT
  replace hA := F2.blkN hA
  refine wl (ro_assign rfl) ?_
  refine wl_nil (x_then (hK1 _ _ ?_))
  clear hK1 K1
  refine forget [(1, _), (2, _), (3, _), (4, _), (6, _), (11, _)] ⟨rfl, rfl, rfl, rfl, rfl, rfl, trivial⟩ (fun e => ?_)
  refine c_seq (fun K2 hK2 => ?_)
  refine c_reg ?_ -- region 1 match.go:59
  refine wl (ro_fieldAddr (k := 0) rfl fo_151_0) ?_
  refine wl (ro_loadB rfl sc_98 (hA) (rfl)) ?_
  refine wl (ro_move rfl) ?_
  refine wl (ro_indexAddr (et := 89) (k := 11) rfl rfl se_98 (rfl) (hkl)) ?_
  refine wl (ro_loadAggB rfl ag_89 (hT) (rfl) (hld)) ?_
  refine wl_new (ze_89) (fun xb w3 hbxb hX F3 => ?_)
  have hbsxb := Nat.le_trans hF.size hbxb
  have hnenbxb : nb < xb := Nat.lt_of_lt_of_le hT.lt hbxb
  have hneabxb : ab < xb := Nat.lt_of_lt_of_le hA.lt hbxb
  have hnecbxb : cb < xb := Nat.lt_of_lt_of_le hC.lt hbxb
  replace hF := hF.thenDrew.thenN F3
  replace hT := F3.blkN hT
  replace hA := F3.blkN hA
  replace hC := F3.blkN hC
  refine wl_puta rfl rfl (by simp [Value.oneCell', i64c, u64c, u8c, ptr]) sz_89 (rfl) hX ((by simp)) (rfl) (fun w4 hX F4 => ?_)
  replace hF := hF.thenDrew.thenO F4 (by first | exact .inr (by omega) | exact .inl rfl | exact .inl (by assumption))
  replace hT := F4.blkO hT (by omega)
  replace hA := F4.blkO hA (by omega)
  replace hC := F4.blkO hC (by omega)
  refine wl_nil (x_then (hK2 _ _ ?_))
  clear hK2 K2
  refine forget [(1, _), (2, _), (3, _), (4, _), (6, _), (11, _), (13, _)] ⟨rfl, rfl, rfl, rfl, rfl, rfl, rfl, trivial⟩ (fun e => ?_)
  refine c_seq (fun K3 hK3 => ?_)
  refine c_reg ?_ -- region 2 match.go:60
  refine wl (ro_move rfl) ?_
  refine wl (ro_loadAggB rfl ag_55 (hC) (rfl) (rfl)) ?_
  refine wl (ro_build rfl bld_215_0_1) ?_
  refine wl_bs1 (cs := wcl (i, cc)) rfl rfl se_212 zx_215 (wcl_len _) rfl rfl (fun gb w5 hgb1 hgb2 hon5 F5 ↦ ?_)
  have hgbw : w.heap.size ≤ gb := Nat.le_trans hF.size hgb1
  replace hF := hF.transG F5 (by intro k hk h; simp only [one, two, none', rgs] at h ⊢ <;> omega)
  replace hT := F5.blkF hT (by intro h; simp only [one, two, none', rgs] at h <;> omega)
  replace hA := F5.blkF hA (by intro h; simp only [one, two, none', rgs] at h <;> omega)
  replace hC := F5.blkF hC (by intro h; simp only [one, two, none', rgs] at h <;> omega)
  replace hX := F5.blkF hX (by intro h; simp only [one, two, none', rgs] at h <;> omega)
  have hSt := wv_one' hon5
  clear hon5
  refine wl (ro_assign rfl) ?_
  refine wl_nil (x_then (hK3 _ _ ?_))
  clear hK3 K3
  refine c_mid (fun a' w' => w5 = w' ∧ ¬ (rmn x ≤ count ∧ (0 ≤ M ∧ M ≤ count)) ∧ ∃ e, a' = Fr 119 (upds e [(1, S s), (2, i64c k), (3, i64c count), (4, i64c i), (6, ptr ab), (11, ptr cb), (13, ptr xb), (14, .slice (some ⟨gb, 0, none⟩) 1 1)]) []) ?_ ?_
  · skip
    refine c_seq (fun K4 hK4 => ?_)
    have hqs : (rmn x ≤ count ∧ 0 ≤ M ∧ M ≤ count) ∨ count < rmn x ∨ (rmn x ≤ count ∧ M < 0) ∨ (rmn x ≤ count ∧ 0 ≤ M ∧ count < M) := by omega
    rcases hqs with q | q | q | q
    · skip
      refine c_reg ?_ -- region 3 match.go:61
      refine wl (ro_move rfl) ?_
      refine wl (ro_fieldAddr (k := 3) rfl fo_89_3) ?_
      refine wl (ro_loadB rfl sc_3 (hX) (rfl)) ?_
      refine wl (ro_cmp (r := true) rfl rfl (congrArg some (decide_eq_true (by omega)))) ?_
      refine wl (ro_move rfl) ?_
      refine wlg_yes rfl (ro_fieldAddr (k := 4) rfl fo_89_4) ?_
      refine wlg_yes rfl (ro_loadB rfl sc_3 (hX) ((show _ = some (icv M) from rfl))) ?_
      refine wlg_yes rfl (ro_cmp (r := true) rfl rfl (congrArg some (decide_eq_true (by omega)))) ?_
      refine wl (ro_pick rfl rfl rfl) ?_
      refine wl (ro_move rfl) ?_
      refine wlg_yes rfl (ro_move rfl) ?_
      refine wlg_yes rfl (ro_fieldAddr (k := 4) rfl fo_89_4) ?_
      refine wlg_yes rfl (ro_loadB rfl sc_3 (hX) ((show _ = some (icv M) from rfl))) ?_
      refine wlg_yes rfl (ro_cmp (r := true) rfl rfl (congrArg some (decide_eq_true (by omega)))) ?_
      refine wl (ro_pick rfl rfl rfl) ?_
      refine wl_nil (x_then (hK4 _ _ ?_))
      clear hK4 K4
      refine wc_condT rfl ?_
      refine c_seq (fun K5 hK5 => ?_)
      refine c_reg ?_ -- region 4 match.go:62
      refine wl (ro_move rfl) ?_
      refine wl (ro_assign rfl) ?_
      refine wl_nil (x_then (hK5 _ _ ?_))
      clear hK5 K5
      refine c_ret (x_thenR ?_)
      refine bp_ret Tryz.results137 rfl ?_
      rw [if_pos q] at hD2; rw [hD2]; exact ⟨hSt.wide hgbw hgb2, hF⟩
    · skip
      refine c_reg ?_ -- region 3 match.go:61
      refine wl (ro_move rfl) ?_
      refine wl (ro_fieldAddr (k := 3) rfl fo_89_3) ?_
      refine wl (ro_loadB rfl sc_3 (hX) (rfl)) ?_
      refine wl (ro_cmp (r := false) rfl rfl (congrArg some (decide_eq_false (by omega)))) ?_
      refine wl (ro_move rfl) ?_
      refine wlg_no rfl ?_
      refine wlg_no rfl ?_
      refine wlg_no rfl ?_
      refine wl (ro_pick rfl rfl rfl) ?_
      refine wl (ro_move rfl) ?_
      refine wlg_no rfl ?_
      refine wlg_no rfl ?_
      refine wlg_no rfl ?_
      refine wlg_no rfl ?_
      refine wl (ro_pick rfl rfl rfl) ?_
      refine wl_nil (x_then (hK4 _ _ ?_))
      clear hK4 K4
      refine wc_condF rfl ?_
      refine c_skip (x_then ?_)
      exact ⟨rfl, by omega, kp _ ⟨rfl, rfl, rfl, rfl, rfl, rfl, rfl, rfl, trivial⟩⟩
    · skip
      refine c_reg ?_ -- region 3 match.go:61
      refine wl (ro_move rfl) ?_
      refine wl (ro_fieldAddr (k := 3) rfl fo_89_3) ?_
      refine wl (ro_loadB rfl sc_3 (hX) (rfl)) ?_
      refine wl (ro_cmp (r := true) rfl rfl (congrArg some (decide_eq_true (by omega)))) ?_
      refine wl (ro_move rfl) ?_
      refine wlg_yes rfl (ro_fieldAddr (k := 4) rfl fo_89_4) ?_
      refine wlg_yes rfl (ro_loadB rfl sc_3 (hX) ((show _ = some (icv M) from rfl))) ?_
      refine wlg_yes rfl (ro_cmp (r := false) rfl rfl (congrArg some (decide_eq_false (by omega)))) ?_
      refine wl (ro_pick rfl rfl rfl) ?_
      refine wl (ro_move rfl) ?_
      refine wlg_no rfl ?_
      refine wlg_no rfl ?_
      refine wlg_no rfl ?_
      refine wlg_no rfl ?_
      refine wl (ro_pick rfl rfl rfl) ?_
      refine wl_nil (x_then (hK4 _ _ ?_))
      clear hK4 K4
      refine wc_condF rfl ?_
      refine c_skip (x_then ?_)
      exact ⟨rfl, by omega, kp _ ⟨rfl, rfl, rfl, rfl, rfl, rfl, rfl, rfl, trivial⟩⟩
    · skip
      refine c_reg ?_ -- region 3 match.go:61
      refine wl (ro_move rfl) ?_
      refine wl (ro_fieldAddr (k := 3) rfl fo_89_3) ?_
      refine wl (ro_loadB rfl sc_3 (hX) (rfl)) ?_
      refine wl (ro_cmp (r := true) rfl rfl (congrArg some (decide_eq_true (by omega)))) ?_
      refine wl (ro_move rfl) ?_
      refine wlg_yes rfl (ro_fieldAddr (k := 4) rfl fo_89_4) ?_
      refine wlg_yes rfl (ro_loadB rfl sc_3 (hX) ((show _ = some (icv M) from rfl))) ?_
      refine wlg_yes rfl (ro_cmp (r := true) rfl rfl (congrArg some (decide_eq_true (by omega)))) ?_
      refine wl (ro_pick rfl rfl rfl) ?_
      refine wl (ro_move rfl) ?_
      refine wlg_yes rfl (ro_move rfl) ?_
      refine wlg_yes rfl (ro_fieldAddr (k := 4) rfl fo_89_4) ?_
      refine wlg_yes rfl (ro_loadB rfl sc_3 (hX) ((show _ = some (icv M) from rfl))) ?_
      refine wlg_yes rfl (ro_cmp (r := false) rfl rfl (congrArg some (decide_eq_false (by omega)))) ?_
      refine wl (ro_pick rfl rfl rfl) ?_
      refine wl_nil (x_then (hK4 _ _ ?_))
      clear hK4 K4
      refine wc_condF rfl ?_
      refine c_skip (x_then ?_)
      exact ⟨rfl, by omega, kp _ ⟨rfl, rfl, rfl, rfl, rfl, rfl, rfl, rfl, trivial⟩⟩
  rintro a' w6 ⟨rfl, hns, e, rfl⟩
  have hns' : ¬ (rmn x ≤ count ∧ ∃ m, rmx x = some m ∧ m ≤ count) := by rw [hMs]; exact hns
  rw [if_neg hns] at hD2
  refine c_seq (fun K6 hK6 => ?_)
  refine c_reg ?_ -- region 5 match.go:64
  refine wl (ro_move rfl) ?_
  refine wl (ro_arith rfl rfl rfl (Go.IntWalk.i64_in _ (by omega))) ?_
  refine wl (ro_assign rfl) ?_
  refine wl_nil (x_then (hK6 _ _ ?_))
  clear hK6 K6
  refine c_mid (fun a' w' => w5 = w' ∧ ∃ e, a' = Fr 119 (upds e [(1, S s), (2, i64c k), (3, i64c count), (4, i64c i), (6, ptr ab), (11, ptr cb), (13, ptr xb), (14, .slice (some ⟨gb, 0, none⟩) 1 1), (15, i64c nx)]) []) ?_ ?_
  · skip
    refine c_seq (fun K7 hK7 => ?_)
    have hqs : count < rmn x ∨ (rmn x ≤ count ∧ M < 0) ∨ (rmn x ≤ count ∧ 0 ≤ M) := by omega
    rcases hqs with q | q | q
    · skip
      rw [if_neg (by omega)] at hnx'
      refine c_reg ?_ -- region 6 match.go:65
      refine wl (ro_move rfl) ?_
      refine wl (ro_fieldAddr (k := 3) rfl fo_89_3) ?_
      refine wl (ro_loadB rfl sc_3 (hX) (rfl)) ?_
      refine wl (ro_cmp (r := false) rfl rfl (congrArg some (decide_eq_false (by omega)))) ?_
      refine wl (ro_move rfl) ?_
      refine wlg_no rfl ?_
      refine wlg_no rfl ?_
      refine wlg_no rfl ?_
      refine wl (ro_pick rfl rfl rfl) ?_
      refine wl_nil (x_then (hK7 _ _ ?_))
      clear hK7 K7
      refine wc_condF rfl ?_
      refine c_skip (x_then ?_)
      exact ⟨rfl, kp _ ⟨rfl, rfl, rfl, rfl, rfl, rfl, rfl, rfl, by rw [hnx']; rfl, trivial⟩⟩
    · skip
      rw [if_pos q] at hnx'
      refine c_reg ?_ -- region 6 match.go:65
      refine wl (ro_move rfl) ?_
      refine wl (ro_fieldAddr (k := 3) rfl fo_89_3) ?_
      refine wl (ro_loadB rfl sc_3 (hX) (rfl)) ?_
      refine wl (ro_cmp (r := true) rfl rfl (congrArg some (decide_eq_true (by omega)))) ?_
      refine wl (ro_move rfl) ?_
      refine wlg_yes rfl (ro_fieldAddr (k := 4) rfl fo_89_4) ?_
      refine wlg_yes rfl (ro_loadB rfl sc_3 (hX) ((show _ = some (icv M) from rfl))) ?_
      refine wlg_yes rfl (ro_cmp (r := true) rfl rfl (congrArg some (decide_eq_true (by omega)))) ?_
      refine wl (ro_pick rfl rfl rfl) ?_
      refine wl_nil (x_then (hK7 _ _ ?_))
      clear hK7 K7
      refine wc_condT rfl ?_
      refine c_reg ?_ -- region 7 match.go:66
      refine wl (ro_move rfl) ?_
      refine wl (ro_assign rfl) ?_
      refine wl_nil (x_then ?_)
      exact ⟨rfl, kp _ ⟨rfl, rfl, rfl, rfl, rfl, rfl, rfl, rfl, by rw [hnx']; rfl, trivial⟩⟩
    · skip
      rw [if_neg (by omega)] at hnx'
      refine c_reg ?_ -- region 6 match.go:65
      refine wl (ro_move rfl) ?_
      refine wl (ro_fieldAddr (k := 3) rfl fo_89_3) ?_
      refine wl (ro_loadB rfl sc_3 (hX) (rfl)) ?_
      refine wl (ro_cmp (r := true) rfl rfl (congrArg some (decide_eq_true (by omega)))) ?_
      refine wl (ro_move rfl) ?_
      refine wlg_yes rfl (ro_fieldAddr (k := 4) rfl fo_89_4) ?_
      refine wlg_yes rfl (ro_loadB rfl sc_3 (hX) ((show _ = some (icv M) from rfl))) ?_
      refine wlg_yes rfl (ro_cmp (r := false) rfl rfl (congrArg some (decide_eq_false (by omega)))) ?_
      refine wl (ro_pick rfl rfl rfl) ?_
      refine wl_nil (x_then (hK7 _ _ ?_))
      clear hK7 K7
      refine wc_condF rfl ?_
      refine c_skip (x_then ?_)
      exact ⟨rfl, kp _ ⟨rfl, rfl, rfl, rfl, rfl, rfl, rfl, rfl, by rw [hnx']; rfl, trivial⟩⟩
  rintro a' w6 ⟨rfl, e, rfl⟩
  refine c_seq (fun K8 hK8 => ?_)
  refine c_reg ?_ -- region 8 match.go:68
  refine wl (ro_assign rfl) ?_
  refine wl_nil (x_then (hK8 _ _ ?_))
  clear hK8 K8
  refine forget [(1, _), (2, _), (3, _), (4, _), (6, _), (11, _), (13, _), (14, _), (15, _), (16, _)] ⟨rfl, rfl, rfl, rfl, rfl, rfl, rfl, rfl, rfl, rfl, trivial⟩ (fun e => ?_)
  refine c_seq (fun K9 hK9 => ?_)
  refine c_reg ?_ -- region 9 match.go:69
  refine wl (ro_loadAggB rfl ag_151 (hA) (rfl) (rfl)) ?_
  refine wl (ro_move rfl) ?_
  refine wl (ro_fieldAddr (k := 1) rfl fo_89_1) ?_
  refine wl (ro_loadB rfl sc_3 (hX) (rfl)) ?_
  refine wl (ro_move rfl) ?_
  refine wl (ro_loadAggB rfl ag_55 (hC) (rfl) (rfl)) ?_
  refine wl_call rfl en_121 (hW hT hia hwa hi hcc) ?_
  rintro VA w6 ⟨hVA, F6⟩
  rw [hLA] at hVA
  have hs56 := F6.size
  replace hF := hF.transG F6 (by intro k hk h; simp only [one, two, none', rgs] at h ⊢ <;> omega)
  replace hT := F6.blkF hT (by intro h; simp only [one, two, none', rgs] at h <;> omega)
  replace hA := F6.blkF hA (by intro h; simp only [one, two, none', rgs] at h <;> omega)
  replace hC := F6.blkF hC (by intro h; simp only [one, two, none', rgs] at h <;> omega)
  replace hX := F6.blkF hX (by intro h; simp only [one, two, none', rgs] at h <;> omega)
  replace hSt := hSt.framS F6 (by intro b h1 h2 h; simp only [one, two, none', rgs] at h <;> omega)
  obtain ⟨aA, cA, rfl⟩ := hVA.own.form
  refine wl (ro_assign rfl) ?_
  refine wl_nil (x_then (hK9 _ _ ?_))
  clear hK9 K9
  refine c_seq (fun K10 hK10 => ?_)
  refine c_seq (fun K11 hK11 => ?_)
  refine c_reg ?_ -- region 10 match.go:70
  refine wl (ro_assign rfl) ?_
  refine wl_nil (x_then (hK11 _ _ ?_))
  clear hK11 K11
  refine c_block ?_
  -- loop@r11: live slots [1, 2, 3, 4, 6, 13, 14, 15, 16, 17, 18]
  have la := hA.lt
  have lx := hX.lt
  have ln := hT.lt
  refine c_loopG (fun m a' w' => ∃ (q : Nat) (VM : Value), m = LA.length - q ∧ q ≤ LA.length ∧ w6.heap.size ≤ w'.heap.size ∧ WV w' VM ((LA.take q).foldl G []) w6.heap.size w'.heap.size ∧ WV w' (.slice aA LA.length cA) LA w5.heap.size w6.heap.size ∧ WV w' (.slice (some ⟨gb, 0, none⟩) 1 1) [(i, cc)] gb (gb + 1) ∧ Blk w'.heap ab (trc nb T.length cap z1 z2 z3 z4) 151 ∧ Blk w'.heap xb (ndc 6 i0 (-1) (rmn x) M 0 (rlz x) 0) 89 ∧ FB w'.heap nb (cap * 11) c 89 ∧ Fram none' w w' ∧ ∃ e, a' = Fr 119 (upds e [(1, S s), (2, i64c k), (3, i64c count), (4, i64c i), (6, ptr ab), (13, ptr xb), (14, .slice (some ⟨gb, 0, none⟩) 1 1), (15, i64c nx), (16, VM), (17, .slice aA LA.length cA), (18, i64c q)]) []) LA.length ⟨0, .slice none 0 0, rfl, by omega, Nat.le_refl _, WV.nil _ _ _, hVA, hSt, hA, hX, hT, hF, kp _ ⟨rfl, rfl, rfl, rfl, rfl, rfl, rfl, rfl, rfl, rfl, rfl, trivial⟩⟩ ?_
  clear hVA hSt hA hX hT hF hC
  rintro m a' w1 ⟨q, VM, rfl, hq, hw61, hVM, hVA, hSt, hA, hX, hT, hF, e, rfl⟩
  obtain ⟨hfb, hfn⟩ := hfl q hq
  refine c_seq (fun K12 hK12 => ?_)
  refine c_seq (fun K13 hK13 => ?_)
  refine c_reg ?_ -- region 11 match.go:70
  refine wl (ro_move rfl) ?_
  refine wl (ro_move rfl) ?_
  refine wl (ro_lenL rfl se_212) ?_
  refine wl (ro_cmp (r := decide (q < LA.length)) rfl rfl (congrArg some (decide_eq_decide.2 (by omega)))) ?_
  refine wl_nil (x_then (hK13 _ _ ?_))
  clear hK13 K13
  refine wc_cond rfl (fun hc67 => ?_) (fun hc67 => ?_)
  · try simp only [decide_eq_true_eq, decide_eq_false_iff_not, Bool.not_eq_true', Bool.not_eq_false', Bool.not_eq_eq_eq_not, Bool.not_true, Bool.not_false, beq_iff_eq, bne_iff_ne, ne_eq, beq_eq_false_iff_ne, bne_eq_false_iff_eq, gt_iff_lt, ge_iff_le, Int.not_lt, Int.not_le] at hc67
    obtain ⟨y, hy⟩ : ∃ y, LA[q]? = some y := ⟨_, List.getElem?_eq_getElem hc67⟩
    have hyb := hLAb y (List.mem_of_getElem? hy)
    have hyc := hLAc y (List.mem_of_getElem? hy)
    obtain ⟨g, gcap, l, hV, hGB, hgc, hgl, hg1, hg2, hga⟩ := hVA.at hy
    cases hV
    have hcell : l[0 + q * 9 + 0]? = some (i64c y.1) := way_cell (hga q y hy) rfl
    have hcaps : (l.drop (0 + q * 9 + 1)).take 8 = capc y.2 := by
      have := congrArg (List.drop 1) (hga q y hy)
      rw [List.drop_take, List.drop_drop] at this
      exact this
    have hstep := foldl_take G LA q y [] hy
    rw [hG] at hstep
    refine c_skip (x_then (hK12 _ _ ?_))
    clear hK12 K12
    refine forget [(1, _), (2, _), (3, _), (4, _), (6, _), (13, _), (14, _), (15, _), (16, _), (17, _), (18, _)] ⟨rfl, rfl, rfl, rfl, rfl, rfl, rfl, rfl, rfl, rfl, rfl, trivial⟩ (fun e => ?_)
    refine c_seq (fun K14 hK14 => ?_)
    refine c_block ?_
    refine c_seq (fun K15 hK15 => ?_)
    have hqs : count < nx ∨ (nx ≤ count ∧ i < y.1) ∨ (nx ≤ count ∧ y.1 ≤ i) := by omega
    rcases hqs with p | p | p
    · skip
      rw [if_pos (.inl p)] at hstep
      have htm2 := tm_next htm hyb.1 hyb.2 hns' (.inl (by rw [hnx]; exact p))
      rw [hnx] at htm2
      have hnx3 := nxt_le hcn.1 (fun m hm => (hcn.2 m hm).2) hc3 hns'
      rw [hnx] at hnx3
      refine c_reg ?_ -- region 13 match.go:71
      refine wl (ro_move rfl) ?_
      refine wl (ro_move rfl) ?_
      refine wl (ro_cmp (r := true) rfl rfl (congrArg some (decide_eq_true (by omega)))) ?_
      refine wl (ro_move rfl) ?_
      refine wlg_no rfl ?_
      refine wlg_no rfl ?_
      refine wlg_no rfl ?_
      refine wlg_no rfl ?_
      refine wlg_no rfl ?_
      refine wlg_no rfl ?_
      refine wlg_no rfl ?_
      refine wl (ro_pick rfl rfl rfl) ?_
      refine wl_nil (x_then (hK15 _ _ ?_))
      clear hK15 K15
      refine wc_condT rfl ?_
      refine c_seq (fun K16 hK16 => ?_)
      refine c_pi [(0, false), (1, false), (2, false), (3, false), (4, false), (5, false), (6, false), (7, false), (8, false), (9, false), (10, false), (11, false), (12, false), (13, false), (14, true), (15, false)] (Fram none' w1) mixed (by kernel_rfl) rfl (by kernel_rfl) (po_then (po_blk (po_then (po_then (po_blk (po_then (po_bp))))))) (Fram.drew none' _ _) ?_ -- region 14 match.go:72
      refine pi_ro rfl (fun w hS => ro_loadAggB rfl ag_151 (hS.blkN hA) (rfl) (rfl)) ?_
      refine pi_ro rfl (fun w hS => ro_move rfl) ?_
      refine pi_ro rfl (fun w hS => ro_move rfl) ?_
      refine pi_ro rfl (fun w hS => ro_move rfl) ?_
      refine pi_ro rfl (fun w hS => ro_move rfl) ?_
      refine pi_ro rfl (fun w hS => ro_move rfl) ?_
      refine pi_ro rfl (fun w hS => ro_indexAddr (et := 215) (k := 9) rfl rfl se_212 (rfl) (hc67)) ?_
      refine pi_ro rfl (fun w hS => ro_fieldAddr (k := 0) rfl fo_215_0) ?_
      refine pi_ro rfl (fun w hS => ro_loadB rfl sc_3 (hS.blkN hGB) (hcell)) ?_
      refine pi_ro rfl (fun w hS => ro_move rfl) ?_
      refine pi_ro rfl (fun w hS => ro_move rfl) ?_
      refine pi_ro rfl (fun w hS => ro_indexAddr (et := 215) (k := 9) rfl rfl se_212 (rfl) (hc67)) ?_
      refine pi_ro rfl (fun w hS => ro_fieldAddr (k := 1) rfl fo_215_1) ?_
      refine pi_ro rfl (fun w hS => ro_loadAggB rfl ag_55 (hS.blkN hGB) (rfl) (hcaps)) ?_
      refine pi_call rfl rfl en_137 (ih htm2 hyb.2 hnx3 hyc hT) ?_
      rintro VB w7 ⟨hVB, F7⟩
      have hs17 : w1.heap.size ≤ w7.heap.size := F7.size
      replace hF := hF.transG F7 (by intro k hk h; simp only [one, two, none', rgs] at h ⊢ <;> omega)
      replace hT := F7.blkF hT (by intro h; simp only [one, two, none', rgs] at h <;> omega)
      replace hA := F7.blkF hA (by intro h; simp only [one, two, none', rgs] at h <;> omega)
      replace hX := F7.blkF hX (by intro h; simp only [one, two, none', rgs] at h <;> omega)
      replace hSt := hSt.framS F7 (by intro b h1 h2 h; simp only [one, two, none', rgs] at h <;> omega)
      replace hVA := hVA.framS F7 (by intro b h1 h2 h; simp only [one, two, none', rgs] at h <;> omega)
      replace hVM := hVM.framS F7 (by intro b h1 h2 h; simp only [one, two, none', rgs] at h <;> omega)
      replace hVB : WV w7 VB _ w1.heap.size w7.heap.size := hVB
      refine ⟨(Fram.drew none' _ _).trans F7, ?_⟩
      refine pi_ro rfl (fun w hS => ro_assign rfl) ?_
      refine pi_nil (x_then (hK16 _ _ ?_))
      clear hK16 K16
      refine c_reg ?_ -- region 15 match.go:73
      refine wl (ro_move rfl) ?_
      refine wl (ro_move rfl) ?_
      refine wl (ro_move rfl) ?_
      refine wl (ro_lenS rfl st_9) ?_
      refine wl_call rfl en_136 (join136 hVM hVB (.inl (Nat.le_refl _)) hs17 (Nat.le_refl _) (Nat.le_trans hw61 hs17) hs256 hfb (htb y hyb.2) (by omega) (by have := htl y hyb.2; omega)) ?_
      rintro VM2 w8 ⟨hVM2, F8⟩
      have hs78 := F8.size
      replace hF := hF.transG F8 (by intro k hk h; simp only [one, two, none', rgs] at h ⊢ <;> omega)
      replace hT := F8.blkF hT (by intro h; simp only [one, two, none', rgs] at h <;> omega)
      replace hA := F8.blkF hA (by intro h; simp only [one, two, none', rgs] at h <;> omega)
      replace hX := F8.blkF hX (by intro h; simp only [one, two, none', rgs] at h <;> omega)
      replace hSt := hSt.framS F8 (by intro b h1 h2 h; simp only [one, two, none', rgs] at h <;> omega)
      replace hVA := hVA.framS F8 (by intro b h1 h2 h; simp only [one, two, none', rgs] at h <;> omega)
      refine wl (ro_assign rfl) ?_
      refine wl_nil (x_blk (x_then (hK14 _ _ ?_)))
      clear hK14 K14
      refine c_reg ?_ -- region 12 match.go:70
      refine wl (ro_move rfl) ?_
      refine wl (ro_arith rfl rfl rfl (Go.IntWalk.i64_in _ (by omega))) ?_
      refine wl (ro_assign rfl) ?_
      refine wl_nil (x_then ?_)
      exact ⟨LA.length - (q + 1), by omega, q + 1, VM2, rfl, by omega, by omega, by rw [hstep]; exact hVM2, hVA, hSt, hA, hX, hT, hF, kp _ ⟨rfl, rfl, rfl, rfl, rfl, rfl, rfl, rfl, rfl, rfl, rfl, trivial⟩⟩
    · skip
      rw [if_pos (.inr p.2)] at hstep
      have htm2 := tm_next htm hyb.1 hyb.2 hns' (.inr p.2)
      rw [hnx] at htm2
      have hnx3 := nxt_le hcn.1 (fun m hm => (hcn.2 m hm).2) hc3 hns'
      rw [hnx] at hnx3
      refine c_reg ?_ -- region 13 match.go:71
      refine wl (ro_move rfl) ?_
      refine wl (ro_move rfl) ?_
      refine wl (ro_cmp (r := false) rfl rfl (congrArg some (decide_eq_false (by omega)))) ?_
      refine wl (ro_move rfl) ?_
      refine wlg_yes rfl (ro_move rfl) ?_
      refine wlg_yes rfl (ro_move rfl) ?_
      refine wlg_yes rfl (ro_indexAddr (et := 215) (k := 9) rfl rfl se_212 (rfl) (hc67)) ?_
      refine wlg_yes rfl (ro_fieldAddr (k := 0) rfl fo_215_0) ?_
      refine wlg_yes rfl (ro_loadB rfl sc_3 (hGB) (hcell)) ?_
      refine wlg_yes rfl (ro_move rfl) ?_
      refine wlg_yes rfl (ro_cmp (r := true) rfl rfl (congrArg some (decide_eq_true (by omega)))) ?_
      refine wl (ro_pick rfl rfl rfl) ?_
      refine wl_nil (x_then (hK15 _ _ ?_))
      clear hK15 K15
      refine wc_condT rfl ?_
      refine c_seq (fun K17 hK17 => ?_)
      refine c_pi [(0, false), (1, false), (2, false), (3, false), (4, false), (5, false), (6, false), (7, false), (8, false), (9, false), (10, false), (11, false), (12, false), (13, false), (14, true), (15, false)] (Fram none' w1) mixed (by kernel_rfl) rfl (by kernel_rfl) (po_then (po_blk (po_then (po_then (po_blk (po_then (po_bp))))))) (Fram.drew none' _ _) ?_ -- region 14 match.go:72
      refine pi_ro rfl (fun w hS => ro_loadAggB rfl ag_151 (hS.blkN hA) (rfl) (rfl)) ?_
      refine pi_ro rfl (fun w hS => ro_move rfl) ?_
      refine pi_ro rfl (fun w hS => ro_move rfl) ?_
      refine pi_ro rfl (fun w hS => ro_move rfl) ?_
      refine pi_ro rfl (fun w hS => ro_move rfl) ?_
      refine pi_ro rfl (fun w hS => ro_move rfl) ?_
      refine pi_ro rfl (fun w hS => ro_indexAddr (et := 215) (k := 9) rfl rfl se_212 (rfl) (hc67)) ?_
      refine pi_ro rfl (fun w hS => ro_fieldAddr (k := 0) rfl fo_215_0) ?_
      refine pi_ro rfl (fun w hS => ro_loadB rfl sc_3 (hS.blkN hGB) (hcell)) ?_
      refine pi_ro rfl (fun w hS => ro_move rfl) ?_
      refine pi_ro rfl (fun w hS => ro_move rfl) ?_
      refine pi_ro rfl (fun w hS => ro_indexAddr (et := 215) (k := 9) rfl rfl se_212 (rfl) (hc67)) ?_
      refine pi_ro rfl (fun w hS => ro_fieldAddr (k := 1) rfl fo_215_1) ?_
      refine pi_ro rfl (fun w hS => ro_loadAggB rfl ag_55 (hS.blkN hGB) (rfl) (hcaps)) ?_
      refine pi_call rfl rfl en_137 (ih htm2 hyb.2 hnx3 hyc hT) ?_
      rintro VB w7 ⟨hVB, F7⟩
      have hs17 : w1.heap.size ≤ w7.heap.size := F7.size
      replace hF := hF.transG F7 (by intro k hk h; simp only [one, two, none', rgs] at h ⊢ <;> omega)
      replace hT := F7.blkF hT (by intro h; simp only [one, two, none', rgs] at h <;> omega)
      replace hA := F7.blkF hA (by intro h; simp only [one, two, none', rgs] at h <;> omega)
      replace hX := F7.blkF hX (by intro h; simp only [one, two, none', rgs] at h <;> omega)
      replace hSt := hSt.framS F7 (by intro b h1 h2 h; simp only [one, two, none', rgs] at h <;> omega)
      replace hVA := hVA.framS F7 (by intro b h1 h2 h; simp only [one, two, none', rgs] at h <;> omega)
      replace hVM := hVM.framS F7 (by intro b h1 h2 h; simp only [one, two, none', rgs] at h <;> omega)
      replace hVB : WV w7 VB _ w1.heap.size w7.heap.size := hVB
      refine ⟨(Fram.drew none' _ _).trans F7, ?_⟩
      refine pi_ro rfl (fun w hS => ro_assign rfl) ?_
      refine pi_nil (x_then (hK17 _ _ ?_))
      clear hK17 K17
      refine c_reg ?_ -- region 15 match.go:73
      refine wl (ro_move rfl) ?_
      refine wl (ro_move rfl) ?_
      refine wl (ro_move rfl) ?_
      refine wl (ro_lenS rfl st_9) ?_
      refine wl_call rfl en_136 (join136 hVM hVB (.inl (Nat.le_refl _)) hs17 (Nat.le_refl _) (Nat.le_trans hw61 hs17) hs256 hfb (htb y hyb.2) (by omega) (by have := htl y hyb.2; omega)) ?_
      rintro VM2 w8 ⟨hVM2, F8⟩
      have hs78 := F8.size
      replace hF := hF.transG F8 (by intro k hk h; simp only [one, two, none', rgs] at h ⊢ <;> omega)
      replace hT := F8.blkF hT (by intro h; simp only [one, two, none', rgs] at h <;> omega)
      replace hA := F8.blkF hA (by intro h; simp only [one, two, none', rgs] at h <;> omega)
      replace hX := F8.blkF hX (by intro h; simp only [one, two, none', rgs] at h <;> omega)
      replace hSt := hSt.framS F8 (by intro b h1 h2 h; simp only [one, two, none', rgs] at h <;> omega)
      replace hVA := hVA.framS F8 (by intro b h1 h2 h; simp only [one, two, none', rgs] at h <;> omega)
      refine wl (ro_assign rfl) ?_
      refine wl_nil (x_blk (x_then (hK14 _ _ ?_)))
      clear hK14 K14
      refine c_reg ?_ -- region 12 match.go:70
      refine wl (ro_move rfl) ?_
      refine wl (ro_arith rfl rfl rfl (Go.IntWalk.i64_in _ (by omega))) ?_
      refine wl (ro_assign rfl) ?_
      refine wl_nil (x_then ?_)
      exact ⟨LA.length - (q + 1), by omega, q + 1, VM2, rfl, by omega, by omega, by rw [hstep]; exact hVM2, hVA, hSt, hA, hX, hT, hF, kp _ ⟨rfl, rfl, rfl, rfl, rfl, rfl, rfl, rfl, rfl, rfl, rfl, trivial⟩⟩
    · skip
      rw [if_neg (by omega), jn_nil] at hstep
      refine c_reg ?_ -- region 13 match.go:71
      refine wl (ro_move rfl) ?_
      refine wl (ro_move rfl) ?_
      refine wl (ro_cmp (r := false) rfl rfl (congrArg some (decide_eq_false (by omega)))) ?_
      refine wl (ro_move rfl) ?_
      refine wlg_yes rfl (ro_move rfl) ?_
      refine wlg_yes rfl (ro_move rfl) ?_
      refine wlg_yes rfl (ro_indexAddr (et := 215) (k := 9) rfl rfl se_212 (rfl) (hc67)) ?_
      refine wlg_yes rfl (ro_fieldAddr (k := 0) rfl fo_215_0) ?_
      refine wlg_yes rfl (ro_loadB rfl sc_3 (hGB) (hcell)) ?_
      refine wlg_yes rfl (ro_move rfl) ?_
      refine wlg_yes rfl (ro_cmp (r := false) rfl rfl (congrArg some (decide_eq_false (by omega)))) ?_
      refine wl (ro_pick rfl rfl rfl) ?_
      refine wl_nil (x_then (hK15 _ _ ?_))
      clear hK15 K15
      refine wc_condF rfl ?_
      refine c_skip (x_blk (x_then (hK14 _ _ ?_)))
      clear hK14 K14
      refine c_reg ?_ -- region 12 match.go:70
      refine wl (ro_move rfl) ?_
      refine wl (ro_arith rfl rfl rfl (Go.IntWalk.i64_in _ (by omega))) ?_
      refine wl (ro_assign rfl) ?_
      refine wl_nil (x_then ?_)
      exact ⟨LA.length - (q + 1), by omega, q + 1, VM, rfl, by omega, by omega, by rw [hstep]; exact hVM, hVA, hSt, hA, hX, hT, hF, kp _ ⟨rfl, rfl, rfl, rfl, rfl, rfl, rfl, rfl, rfl, rfl, rfl, trivial⟩⟩
  · try simp only [decide_eq_true_eq, decide_eq_false_iff_not, Bool.not_eq_true', Bool.not_eq_false', Bool.not_eq_eq_eq_not, Bool.not_true, Bool.not_false, beq_iff_eq, bne_iff_ne, ne_eq, beq_eq_false_iff_ne, bne_eq_false_iff_eq, gt_iff_lt, ge_iff_le, Int.not_lt, Int.not_le] at hc67
    refine c_exit (x_thenX (x_thenX (x_blkX (x_then (hK10 _ _ ?_)))))
    clear hK12 K12 hK10 K10
    refine c_seq (fun K18 hK18 => ?_)
    refine c_seq (fun K19 hK19 => ?_)
    have hql : q = LA.length := by omega
    subst hql
    rw [List.take_length] at hVM hfb hfn
    have hws := hF.size
    refine c_reg ?_ -- region 16 match.go:76
    refine wl (ro_move rfl) ?_
    refine wl (ro_fieldAddr (k := 3) rfl fo_89_3) ?_
    refine wl (ro_loadB rfl sc_3 (hX) (rfl)) ?_
    refine wl (ro_cmp (r := decide (count < rmn x)) rfl rfl (congrArg some (decide_eq_decide.2 (by omega)))) ?_
    refine wl_nil (x_then (hK19 _ _ ?_))
    clear hK19 K19
    refine wc_cond rfl (fun hc105 => ?_) (fun hc105 => ?_)
    · try simp only [decide_eq_true_eq, decide_eq_false_iff_not, Bool.not_eq_true', Bool.not_eq_false', Bool.not_eq_eq_eq_not, Bool.not_true, Bool.not_false, beq_iff_eq, bne_iff_ne, ne_eq, beq_eq_false_iff_ne, bne_eq_false_iff_eq, gt_iff_lt, ge_iff_le, Int.not_lt, Int.not_le] at hc105
      rw [if_pos hc105] at hD2
      refine c_seq (fun K20 hK20 => ?_)
      refine c_reg ?_ -- region 17 match.go:77
      refine wl (ro_move rfl) ?_
      refine wl (ro_assign rfl) ?_
      refine wl_nil (x_then (hK20 _ _ ?_))
      clear hK20 K20
      refine c_ret (x_thenR ?_)
      refine bp_ret Tryz.results137 rfl ?_
      rw [hD2]
      first
        | exact ⟨hVM.wide (by omega) (Nat.le_refl _), hF⟩
        | exact ⟨hVZ.wide (by omega) (Nat.le_refl _), hF⟩
    · try simp only [decide_eq_true_eq, decide_eq_false_iff_not, Bool.not_eq_true', Bool.not_eq_false', Bool.not_eq_eq_eq_not, Bool.not_true, Bool.not_false, beq_iff_eq, bne_iff_ne, ne_eq, beq_eq_false_iff_ne, bne_eq_false_iff_eq, gt_iff_lt, ge_iff_le, Int.not_lt, Int.not_le] at hc105
      rw [if_neg hc105] at hD2
      refine c_skip (x_then (hK18 _ _ ?_))
      clear hK18 K18
      refine c_seq (fun K21 hK21 => ?_)
      refine c_seq (fun K22 hK22 => ?_)
      refine c_reg ?_ -- region 18 match.go:79
      refine wl (ro_fieldAddr (k := 6) rfl fo_89_6) ?_
      refine wl (ro_loadB rfl sc_4 (hX) ((show _ = some (.bool (rlz x)) from rfl))) ?_
      refine wl_nil (x_then (hK22 _ _ ?_))
      clear hK22 K22
      refine wc_cond rfl (fun hc108 => ?_) (fun hc108 => ?_)
      · try simp only [decide_eq_true_eq, decide_eq_false_iff_not, Bool.not_eq_true', Bool.not_eq_false', Bool.not_eq_eq_eq_not, Bool.not_true, Bool.not_false, beq_iff_eq, bne_iff_ne, ne_eq, beq_eq_false_iff_ne, bne_eq_false_iff_eq, gt_iff_lt, ge_iff_le, Int.not_lt, Int.not_le] at hc108
        rw [if_pos hc108] at hD2
        refine c_seq (fun K23 hK23 => ?_)
        refine c_reg ?_ -- region 19 match.go:80
        refine wl (ro_move rfl) ?_
        refine wl (ro_move rfl) ?_
        refine wl (ro_move rfl) ?_
        refine wl (ro_lenS rfl st_9) ?_
        refine wl_call rfl en_136 (join136 hSt hVM (.inl (by omega)) (by omega) (Nat.le_refl _) (by omega) hs256 (fun u hu ↦ by simp at hu; subst hu; exact hi) hfb (by simp) (by omega)) ?_
        rintro VZ w8 ⟨hVZ, F8⟩
        replace hF := hF.transG F8 (by intro k hk h; simp only [rgs] at h; omega)
        refine wl (ro_assign rfl) ?_
        refine wl_nil (x_then (hK23 _ _ ?_))
        clear hK23 K23
        refine c_ret (x_thenR ?_)
        refine bp_ret Tryz.results137 rfl ?_
        rw [hD2]
        first
          | exact ⟨hVM.wide (by omega) (Nat.le_refl _), hF⟩
          | exact ⟨hVZ.wide (by omega) (Nat.le_refl _), hF⟩
      · try simp only [decide_eq_true_eq, decide_eq_false_iff_not, Bool.not_eq_true', Bool.not_eq_false', Bool.not_eq_eq_eq_not, Bool.not_true, Bool.not_false, beq_iff_eq, bne_iff_ne, ne_eq, beq_eq_false_iff_ne, bne_eq_false_iff_eq, gt_iff_lt, ge_iff_le, Int.not_lt, Int.not_le] at hc108
        rw [if_neg (by rw [hc108]; simp)] at hD2
        refine c_skip (x_then (hK21 _ _ ?_))
        clear hK21 K21
        refine forget [(1, _), (14, _), (16, _)] ⟨rfl, rfl, rfl, trivial⟩ (fun e => ?_)
        refine c_seq (fun K24 hK24 => ?_)
        refine c_reg ?_ -- region 20 match.go:82
        refine wl (ro_move rfl) ?_
        refine wl (ro_move rfl) ?_
        refine wl (ro_move rfl) ?_
        refine wl (ro_lenS rfl st_9) ?_
        refine wl_call rfl en_136 (join136 hVM hSt (.inr (by omega)) (Nat.le_refl _) (by omega) hw61 hs256 hfb (fun u hu ↦ by simp at hu; subst hu; exact hi) (by omega) (by simp)) ?_
        rintro VZ w8 ⟨hVZ, F8⟩
        replace hF := hF.transG F8 (by intro k hk h; simp only [rgs] at h; omega)
        refine wl (ro_assign rfl) ?_
        refine wl_nil (x_then (hK24 _ _ ?_))
        clear hK24 K24
        refine c_ret ?_
        refine bp_ret Tryz.results137 rfl ?_
        rw [hD2]
        first
          | exact ⟨hVM.wide (by omega) (Nat.le_refl _), hF⟩
          | exact ⟨hVZ.wide (by omega) (Nat.le_refl _), hF⟩

end Go.Proofs.Qxb6500567aGreat
