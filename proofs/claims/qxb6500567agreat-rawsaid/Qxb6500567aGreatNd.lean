import Derived.Test.Qxb6500567aGreatNc
/- The law: Raw. -/
namespace Go.Proofs.Qxb6500567aGreat
set_option linter.unusedVariables false
set_option linter.unusedSimpArgs false

theorem FMV.framN {w w' : World} {fb : Nat} {E : MB} {n : Nat} (V : FMV w fb E n) (f : Fram none' w w') : FMV w' fb E n := V.fram f (fun h => h) (fun _ _ h => h)

theorem bset2_lo {F : FK} {E : MB} {z : Nat} (ho : FKo F) (hm : MBo E) (h1 : z ≤ F.E.B.xb) (h2 : z ≤ E.pb) {k : Nat} (hk : bset2 F E k) : z ≤ k := by
  rcases hk with hk | hk
  · have := ho.lo (.inl hk); omega
  · obtain ⟨d1, d2, d3⟩ := hm
    rcases hk with rfl | rfl | rfl | rfl <;> omega

set_option maxHeartbeats 4000000 in
theorem Raw3 {w : World} {p s t : List UInt8} (hpm : p.length ≤ 9223372036854775807) (hsm : s.length ≤ 9223372036854775807) (htm : t.length ≤ 9223372036854775807) :
    Ret Tryz.prog 3 [S p, S s, S t] w (fun v w' => v = .bool true ∧ Fram none' w w') := by
  have hF : Fram none' w w := Fram.refl _ _
  refine ret_of Tryz.func3 rfl Tryz.ntmps3 rfl ?_
  refine c_seq (fun K1 hK1 => ?_)
  refine c_reg ?_ -- region 0 law.go:118
  refine wl (ro_assign rfl) ?_
  refine wl_nil (x_then (hK1 _ _ ?_))
  clear hK1 K1
  refine c_seq (fun K2 hK2 => ?_)
  refine c_seq (fun K3 hK3 => ?_)
  have hql : 1073741824 < p.length ∨ (p.length ≤ 1073741824 ∧ 1073741824 < s.length) ∨ (p.length ≤ 1073741824 ∧ s.length ≤ 1073741824 ∧ 1073741824 < t.length) ∨ (p.length ≤ 1073741824 ∧ s.length ≤ 1073741824 ∧ t.length ≤ 1073741824) := by omega
  rcases hql with q | q | q | q
  · skip
    refine c_reg ?_ -- region 1 law.go:119
    refine wl (ro_move rfl) ?_
    refine wl (ro_lenS rfl st_9) ?_
    refine wl (ro_cmp (r := true) rfl rfl (congrArg some (decide_eq_true (by omega)))) ?_
    refine wl (ro_move rfl) ?_
    refine wlg_no rfl ?_
    refine wlg_no rfl ?_
    refine wlg_no rfl ?_
    refine wl (ro_pick rfl rfl rfl) ?_
    refine wl (ro_move rfl) ?_
    refine wlg_no rfl ?_
    refine wlg_no rfl ?_
    refine wlg_no rfl ?_
    refine wl (ro_pick rfl rfl rfl) ?_
    refine wl_nil (x_then (hK3 _ _ ?_))
    clear hK3 K3
    refine wc_condT rfl ?_
    refine c_seq (fun K4 hK4 => ?_)
    refine c_reg ?_ -- region 2 law.go:120
    refine wl (ro_assign rfl) ?_
    refine wl_nil (x_then (hK4 _ _ ?_))
    clear hK4 K4
    refine c_ret (x_thenR ?_)
    refine bp_ret Tryz.results3 rfl ?_
    exact ⟨rfl, hF⟩
  · skip
    refine c_reg ?_ -- region 1 law.go:119
    refine wl (ro_move rfl) ?_
    refine wl (ro_lenS rfl st_9) ?_
    refine wl (ro_cmp (r := false) rfl rfl (congrArg some (decide_eq_false (by omega)))) ?_
    refine wl (ro_move rfl) ?_
    refine wlg_yes rfl (ro_move rfl) ?_
    refine wlg_yes rfl (ro_lenS rfl st_9) ?_
    refine wlg_yes rfl (ro_cmp (r := true) rfl rfl (congrArg some (decide_eq_true (by omega)))) ?_
    refine wl (ro_pick rfl rfl rfl) ?_
    refine wl (ro_move rfl) ?_
    refine wlg_no rfl ?_
    refine wlg_no rfl ?_
    refine wlg_no rfl ?_
    refine wl (ro_pick rfl rfl rfl) ?_
    refine wl_nil (x_then (hK3 _ _ ?_))
    clear hK3 K3
    refine wc_condT rfl ?_
    refine c_seq (fun K5 hK5 => ?_)
    refine c_reg ?_ -- region 2 law.go:120
    refine wl (ro_assign rfl) ?_
    refine wl_nil (x_then (hK5 _ _ ?_))
    clear hK5 K5
    refine c_ret (x_thenR ?_)
    refine bp_ret Tryz.results3 rfl ?_
    exact ⟨rfl, hF⟩
  · skip
    refine c_reg ?_ -- region 1 law.go:119
    refine wl (ro_move rfl) ?_
    refine wl (ro_lenS rfl st_9) ?_
    refine wl (ro_cmp (r := false) rfl rfl (congrArg some (decide_eq_false (by omega)))) ?_
    refine wl (ro_move rfl) ?_
    refine wlg_yes rfl (ro_move rfl) ?_
    refine wlg_yes rfl (ro_lenS rfl st_9) ?_
    refine wlg_yes rfl (ro_cmp (r := false) rfl rfl (congrArg some (decide_eq_false (by omega)))) ?_
    refine wl (ro_pick rfl rfl rfl) ?_
    refine wl (ro_move rfl) ?_
    refine wlg_yes rfl (ro_move rfl) ?_
    refine wlg_yes rfl (ro_lenS rfl st_9) ?_
    refine wlg_yes rfl (ro_cmp (r := true) rfl rfl (congrArg some (decide_eq_true (by omega)))) ?_
    refine wl (ro_pick rfl rfl rfl) ?_
    refine wl_nil (x_then (hK3 _ _ ?_))
    clear hK3 K3
    refine wc_condT rfl ?_
    refine c_seq (fun K6 hK6 => ?_)
    refine c_reg ?_ -- region 2 law.go:120
    refine wl (ro_assign rfl) ?_
    refine wl_nil (x_then (hK6 _ _ ?_))
    clear hK6 K6
    refine c_ret (x_thenR ?_)
    refine bp_ret Tryz.results3 rfl ?_
    exact ⟨rfl, hF⟩
  · skip
    refine c_reg ?_ -- region 1 law.go:119
    refine wl (ro_move rfl) ?_
    refine wl (ro_lenS rfl st_9) ?_
    refine wl (ro_cmp (r := false) rfl rfl (congrArg some (decide_eq_false (by omega)))) ?_
    refine wl (ro_move rfl) ?_
    refine wlg_yes rfl (ro_move rfl) ?_
    refine wlg_yes rfl (ro_lenS rfl st_9) ?_
    refine wlg_yes rfl (ro_cmp (r := false) rfl rfl (congrArg some (decide_eq_false (by omega)))) ?_
    refine wl (ro_pick rfl rfl rfl) ?_
    refine wl (ro_move rfl) ?_
    refine wlg_yes rfl (ro_move rfl) ?_
    refine wlg_yes rfl (ro_lenS rfl st_9) ?_
    refine wlg_yes rfl (ro_cmp (r := false) rfl rfl (congrArg some (decide_eq_false (by omega)))) ?_
    refine wl (ro_pick rfl rfl rfl) ?_
    refine wl_nil (x_then (hK3 _ _ ?_))
    clear hK3 K3
    refine wc_condF rfl ?_
    refine c_skip (x_then (hK2 _ _ ?_))
    clear hK2 K2
    refine forget [(0, _), (1, _), (2, _)] ⟨rfl, rfl, rfl, trivial⟩ (fun e => ?_)
    refine c_seq (fun K7 hK7 => ?_)
    refine c_reg ?_ -- region 3 law.go:122
    refine wl_call rfl en_5 (New5) ?_
    rintro _ w1 ⟨gb, E, rfl, hpb, M, F1⟩
    replace hF := hF.trans F1
    have hs1 := F1.size
    have hgb := M.blk.lt
    refine wl (ro_assign rfl) ?_
    refine wl_nil (x_then (hK7 _ _ ?_))
    clear hK7 K7
    refine forget [(0, _), (1, _), (2, _), (7, _)] ⟨rfl, rfl, rfl, rfl, trivial⟩ (fun e => ?_)
    refine c_seq (fun K8 hK8 => ?_)
    refine c_reg ?_ -- region 4 law.go:123
    refine wl_call rfl en_6 (New6) ?_
    rintro _ w2 ⟨K, rfl, hxb, hKo, X, F2⟩
    replace hF := hF.trans F2
    replace M := M.framN F2
    have V : Pr w2 K 0 gb E 0 := ⟨X, M, hKo, by omega⟩
    have hblo : ∀ k, bset2 K E k → w.heap.size ≤ k := fun k hk => bset2_lo hKo M.ord (by omega) hpb hk
    have hgb2 := M.blk.lt
    refine wl (ro_assign rfl) ?_
    refine wl_nil (x_then (hK8 _ _ ?_))
    clear hK8 K8
    refine c_seq (fun K9 hK9 => ?_)
    refine c_seq (fun K10 hK10 => ?_)
    refine c_reg ?_ -- region 5 law.go:124
    refine wl (ro_move rfl) ?_
    refine wl (ro_move rfl) ?_
    refine wl (ro_move rfl) ?_
    refine wl (ro_move rfl) ?_
    refine wl_call rfl en_7 (found7 V (by omega) (by omega) hpm hsm) ?_
    rintro _ w3 ⟨rfl, V, F3⟩
    replace hF := hF.trans' F3 (fun k hk h ↦ by have := hblo k h; omega)
    replace M := V.m
    have hgb3 := M.blk.lt
    refine wl (ro_not rfl) ?_
    refine wl_nil (x_then (hK10 _ _ ?_))
    clear hK10 K10
    refine wc_condF rfl ?_
    refine c_skip (x_then (hK9 _ _ ?_))
    clear hK9 K9
    refine forget [(0, _), (1, _), (2, _), (7, _)] ⟨rfl, rfl, rfl, rfl, trivial⟩ (fun e => ?_)
    refine c_seq (fun K11 hK11 => ?_)
    refine c_reg ?_ -- region 7 law.go:127
    refine wl_call rfl en_6 (New6) ?_
    rintro _ w4 ⟨K2, rfl, hxb2, hKo2, X, F4⟩
    replace hF := hF.trans F4
    replace M := M.framN F4
    have V2 : Pr w4 K2 0 gb E _ := ⟨X, M, hKo2, by omega⟩
    have hsz4 := hF.size
    have hs34 := F3.size
    have hs2 := F2.size
    have hblo2 : ∀ k, bset2 K2 E k → w.heap.size ≤ k := fun k hk => bset2_lo hKo2 M.ord (by omega) hpb hk
    refine wl (ro_assign rfl) ?_
    refine wl_nil (x_then (hK11 _ _ ?_))
    clear hK11 K11
    refine forget [(0, _), (1, _), (2, _), (7, _), (9, _)] ⟨rfl, rfl, rfl, rfl, rfl, trivial⟩ (fun e => ?_)
    refine c_seq (fun K12 hK12 => ?_)
    refine c_reg ?_ -- region 8 law.go:128
    refine wl (ro_move rfl) ?_
    refine wl (ro_move rfl) ?_
    refine wl (ro_move rfl) ?_
    refine wl (ro_move rfl) ?_
    refine wl_call rfl en_8 (foundAll8 V2 (by omega) (by omega) hpm hsm) ?_
    rintro _ w5 ⟨⟨V1, rfl, -⟩, V2, F5⟩
    replace hF := hF.trans' F5 (fun k hk h ↦ by have := hblo2 k h; omega)
    replace M := V2.m
    have hgb5 := M.blk.lt
    have hsz5 := hF.size
    refine wl (ro_move rfl) ?_
    refine wl (ro_extract rfl rfl) ?_
    refine wl (ro_extract rfl rfl) ?_
    refine wl (ro_assign rfl) ?_
    refine wl (ro_assign rfl) ?_
    refine wl_nil (x_then (hK12 _ _ ?_))
    clear hK12 K12
    refine c_seq (fun K13 hK13 => ?_)
    refine c_seq (fun K14 hK14 => ?_)
    refine c_reg ?_ -- region 9 law.go:129
    refine wl (ro_move rfl) ?_
    refine wl (ro_not rfl) ?_
    refine wl_nil (x_then (hK14 _ _ ?_))
    clear hK14 K14
    refine wc_condF rfl ?_
    refine c_skip (x_then (hK13 _ _ ?_))
    clear hK13 K13
    refine forget [(0, _), (1, _), (2, _), (7, _)] ⟨rfl, rfl, rfl, rfl, trivial⟩ (fun e => ?_)
    refine c_seq (fun K15 hK15 => ?_)
    refine c_reg ?_ -- region 11 law.go:132
    refine wl_call rfl en_6 (New6) ?_
    rintro _ w6 ⟨K3, rfl, hxb3, hKo3, X, F6⟩
    replace hF := hF.trans F6
    replace M := M.framN F6
    have V3 : Pr w6 K3 0 gb E _ := ⟨X, M, hKo3, by omega⟩
    have hblo3 : ∀ k, bset2 K3 E k → w.heap.size ≤ k := fun k hk => bset2_lo hKo3 M.ord (by omega) hpb hk
    refine wl (ro_assign rfl) ?_
    refine wl_nil (x_then (hK15 _ _ ?_))
    clear hK15 K15
    refine c_seq (fun K16 hK16 => ?_)
    refine c_seq (fun K17 hK17 => ?_)
    refine c_reg ?_ -- region 12 law.go:133
    refine wl (ro_move rfl) ?_
    refine wl (ro_move rfl) ?_
    refine wl (ro_move rfl) ?_
    refine wl (ro_move rfl) ?_
    refine wl (ro_move rfl) ?_
    refine wl_call rfl en_9 (replaced9 V3 (by omega) (by omega) hpm hsm htm) ?_
    rintro _ w7 ⟨rfl, V3, F7⟩
    replace hF := hF.trans' F7 (fun k hk h ↦ by have := hblo3 k h; omega)
    replace M := V3.m
    have hgb7 := M.blk.lt
    have hsz7 := hF.size
    refine wl (ro_not rfl) ?_
    refine wl_nil (x_then (hK17 _ _ ?_))
    clear hK17 K17
    refine wc_condF rfl ?_
    refine c_skip (x_then (hK16 _ _ ?_))
    clear hK16 K16
    refine forget [(0, _), (1, _), (7, _)] ⟨rfl, rfl, rfl, trivial⟩ (fun e => ?_)
    refine c_seq (fun K18 hK18 => ?_)
    refine c_reg ?_ -- region 14 law.go:136
    refine wl_call rfl en_6 (New6) ?_
    rintro _ w8 ⟨K4, rfl, hxb4, hKo4, X, F8⟩
    replace hF := hF.trans F8
    replace M := M.framN F8
    have V4 : Pr w8 K4 0 gb E _ := ⟨X, M, hKo4, by omega⟩
    have hblo4 : ∀ k, bset2 K4 E k → w.heap.size ≤ k := fun k hk => bset2_lo hKo4 M.ord (by omega) hpb hk
    refine wl (ro_assign rfl) ?_
    refine wl_nil (x_then (hK18 _ _ ?_))
    clear hK18 K18
    refine forget [(0, _), (1, _), (7, _), (13, _)] ⟨rfl, rfl, rfl, rfl, trivial⟩ (fun e => ?_)
    refine c_seq (fun K19 hK19 => ?_)
    refine c_reg ?_ -- region 15 law.go:137
    refine wl (ro_move rfl) ?_
    refine wl (ro_move rfl) ?_
    refine wl (ro_move rfl) ?_
    refine wl (ro_move rfl) ?_
    refine wl_call rfl en_10 (split10 V4 (by omega) (by omega) hpm hsm) ?_
    rintro _ w9 ⟨⟨V5, rfl, -⟩, V4, F9⟩
    replace hF := hF.trans' F9 (fun k hk h ↦ by have := hblo4 k h; omega)
    refine wl (ro_move rfl) ?_
    refine wl (ro_extract rfl rfl) ?_
    refine wl (ro_extract rfl rfl) ?_
    refine wl (ro_assign rfl) ?_
    refine wl_nil (x_then (hK19 _ _ ?_))
    clear hK19 K19
    refine forget [(11, _)] ⟨rfl, trivial⟩ (fun e => ?_)
    refine c_seq (fun K20 hK20 => ?_)
    refine c_reg ?_ -- region 16 law.go:138
    refine wl (ro_move rfl) ?_
    refine wl (ro_assign rfl) ?_
    refine wl_nil (x_then (hK20 _ _ ?_))
    clear hK20 K20
    refine c_ret ?_
    refine bp_ret Tryz.results3 rfl ?_
    exact ⟨rfl, hF⟩

end Go.Proofs.Qxb6500567aGreat
