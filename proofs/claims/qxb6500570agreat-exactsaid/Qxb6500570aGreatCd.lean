import Derived.Test.Qxb6500570aGreatCc
/- The model's reader: references. -/
namespace Go.Proofs.Qxb6500570aGreat
set_option linter.unusedVariables false
set_option linter.unusedSimpArgs false

/-- The row behind the letter. -/
def rowF (c : Int) (ac ar : Bool) (t : List UInt8) : Option Rf := match t with
  | [d] => if d1 d = true then some ⟨c, (dv d : Int) - 1, ac, ar⟩ else none
  | [d, x] => if d1 d = true ∧ dg x = true then some ⟨c, (dv d * 10 + dv x : Int) - 1, ac, ar⟩ else none
  | _ => none
theorem refB_abs {ac : Bool} {l : UInt8} {t : List UInt8} (hl : cp l = true) : refB ac (l :: 36 :: t) = rowF ((l.toNat : Int) - 65) ac true t := by
  unfold refB
  simp only [hl, if_true]
  match t with
  | [] => simp [rowF, d1_36]
  | [d] => simp [rowF]
  | [d, x] => simp [rowF]
  | d :: x :: y :: r => simp [rowF]
theorem refB_rel {ac : Bool} {l : UInt8} {t : List UInt8} (hl : cp l = true) (ht : ∀ r, t ≠ 36 :: r) : refB ac (l :: t) = rowF ((l.toNat : Int) - 65) ac false t := by
  unfold refB
  simp only [hl, if_true]
  match t with
  | [] => simp [rowF]
  | [d] => simp [rowF]
  | [d, x] =>
    have : d ≠ 36 := fun h => ht [x] (by rw [h])
    simp [rowF, this]
  | [d, x, y] =>
    have : d ≠ 36 := fun h => ht [x, y] (by rw [h])
    simp [rowF, this]
  | d :: x :: y :: z :: r => simp [rowF]
theorem rowF_nil {c : Int} {ac ar : Bool} : rowF c ac ar [] = none := rfl
theorem rowF_long {c : Int} {ac ar : Bool} {t : List UInt8} (h : 2 < t.length) : rowF c ac ar t = none := by
  match t with
  | [] => rfl
  | [d] => simp at h
  | [d, x] => simp at h
  | d :: x :: y :: r => rfl
theorem rowF_hd {c : Int} {ac ar : Bool} {d : UInt8} {t : List UInt8} (h : d1 d = false) : rowF c ac ar (d :: t) = none := by
  match t with
  | [] => simp [rowF, h]
  | [x] => simp [rowF, h]
  | x :: y :: r => rfl
theorem rowF_nd {c : Int} {ac ar : Bool} {t : List UInt8} {k : Nat} {x : UInt8} (hk : t[k]? = some x) (h : dg x = false) : rowF c ac ar t = none := by
  have hd1 : d1 x = false := by
    cases h1 : d1 x with
    | false => rfl
    | true => rw [d1_iff] at h1; rw [dg_not] at h; omega
  match t, k, hk with
  | [], k, hk => rfl
  | [d], 0, hk => simp at hk; subst hk; simp [rowF, hd1]
  | [d], k + 1, hk => simp at hk
  | [d, y], 0, hk => simp at hk; subst hk; simp [rowF, hd1]
  | [d, y], 1, hk => simp at hk; subst hk; simp [rowF, h]
  | [d, y], k + 2, hk => simp at hk
  | d :: y :: z :: r, _, _ => rfl
theorem rowF_ok {c : Int} {ac ar : Bool} {d : UInt8} {t : List UInt8} (h : d1 d = true) (hl : (d :: t).length ≤ 2) (hall : ∀ x ∈ d :: t, dg x = true) : rowF c ac ar (d :: t) = some ⟨c, (numF (d :: t) : Int) - 1, ac, ar⟩ := by
  match t with
  | [] => simp [rowF, h, numF]
  | [x] => simp [rowF, h, numF, hall x (by simp)]
  | x :: y :: r => simp at hl

theorem refOf_hd {u : List UInt8} (h : u[0]? ≠ some 36) : refOf u = refB false (u.drop 0) := by
  cases u with
  | nil => rfl
  | cons x t =>
    have hx : x ≠ 36 := fun e => h (by simp [e])
    simp [refOf, hx]
theorem refOf_ab {u : List UInt8} (h : u[0]? = some 36) : refOf u = refB true (u.drop 1) := by
  cases u with
  | nil => simp at h
  | cons x t =>
    simp at h
    simp [refOf, h]

set_option maxHeartbeats 8000000 in
theorem RefOf230 {w : World} {u : List UInt8} (hu : u.length ≤ 40) :
    Ret Tryz.prog 230 [S u] w (fun v w' => v = .tuple #[.agg (refc ((refOf u).getD zR)).toArray, .bool (refOf u).isSome] ∧ Fram none' w w') := by
  have hF : Fram none' w w := Fram.refl _ _
  generalize hres : refOf u = O
  refine ret_of Tryz.func230 rfl Tryz.ntmps230 rfl ?_
  refine c_seq (fun K1 hK1 => ?_)
  refine c_reg ?_ -- region 0 formm.go:89
  refine wl_new (ze_141) (fun rb w1 hbrb hR F1 => ?_)
  have hbsrb := Nat.le_trans hF.size hbrb
  replace hF := hF.thenDrew.thenN F1
  refine wl (ro_assign rfl) ?_
  refine wl_nil (x_then (hK1 _ _ ?_))
  clear hK1 K1
  refine forget [(0, _), (2, _)] ⟨rfl, rfl, trivial⟩ (fun e => ?_)
  refine c_seq (fun K2 hK2 => ?_)
  refine c_reg ?_ -- region 1 formm.go:90
  refine wl (ro_build rfl bld_141) ?_
  refine wl_new (ze_141) (fun cb w2 hbcb hC F2 => ?_)
  have hbscb := Nat.le_trans hF.size hbcb
  have hnerbcb : rb < cb := Nat.lt_of_lt_of_le hR.lt hbcb
  replace hF := hF.thenDrew.thenN F2
  replace hR := F2.blkN hR
  refine wl_puta rfl rfl (by simp [Value.oneCell', i64c, u64c, u8c, ptr]) sz_141 (rfl) hC ((by simp)) ((show _ = refc zR from rfl)) (fun w3 hC F3 => ?_)
  replace hF := hF.thenDrew.thenO F3 (by first | exact .inr (by omega) | exact .inl rfl | exact .inl (by assumption))
  replace hR := F3.blkO hR (by omega)
  refine wl_nil (x_then (hK2 _ _ ?_))
  clear hK2 K2
  refine forget [(0, _), (2, _), (4, _)] ⟨rfl, rfl, rfl, trivial⟩ (fun e => ?_)
  refine c_seq (fun K3 hK3 => ?_)
  refine c_reg ?_ -- region 2 formm.go:91
  refine wl (ro_assign rfl) ?_
  refine wl_nil (x_then (hK3 _ _ ?_))
  clear hK3 K3
  refine c_mid (fun a' w' => ∃ (i1 : Nat) (ac : Bool), O = refB ac (u.drop i1) ∧ i1 ≤ 1 ∧ Blk w'.heap rb (refc zR) 141 ∧ Blk w'.heap cb (refc ⟨0, 0, ac, false⟩) 141 ∧ Fram none' w w' ∧ ∃ e, a' = Fr 112 (upds e [(0, S u), (2, ptr rb), (4, ptr cb), (5, i64c i1)]) []) ?_ ?_
  · skip
    refine c_seq (fun K4 hK4 => ?_)
    have hcs : u.length = 0 ∨ (∃ c, u[0]? = some c ∧ c.toNat ≠ 36) ∨ u[0]? = some 36 := by
      cases u with
      | nil => exact .inl rfl
      | cons x t =>
        by_cases h : x.toNat = 36
        · exact .inr (.inr (by simp [c36.2 h]))
        · exact .inr (.inl ⟨x, by simp, h⟩)
    rcases hcs with h0 | ⟨c, h0, hc⟩ | h0
    · skip
      rw [refOf_hd (by rw [List.getElem?_eq_none (by omega)]; simp)] at hres
      refine c_reg ?_ -- region 3 formm.go:92
      refine wl (ro_move rfl) ?_
      refine wl (ro_move rfl) ?_
      refine wl (ro_lenS rfl st_9) ?_
      refine wl (ro_cmp (r := false) rfl rfl (congrArg some (decide_eq_false (by omega)))) ?_
      refine wl (ro_move rfl) ?_
      refine wlg_no rfl ?_
      refine wlg_no rfl ?_
      refine wlg_no rfl ?_
      refine wlg_no rfl ?_
      refine wl (ro_pick rfl rfl rfl) ?_
      refine wl_nil (x_then (hK4 _ _ ?_))
      clear hK4 K4
      refine wc_condF rfl ?_
      refine c_skip (x_then ?_)
      first
        | exact ⟨1, true, hres.symm, by omega, hR, hC, hF, kp _ ⟨rfl, rfl, rfl, rfl, trivial⟩⟩
        | exact ⟨0, false, hres.symm, by omega, hR, hC, hF, kp _ ⟨rfl, rfl, rfl, rfl, trivial⟩⟩
    · skip
      have hul := (List.getElem?_eq_some_iff.1 h0).1
      rw [refOf_hd (by rw [h0]; intro e; cases e; exact hc rfl)] at hres
      refine c_reg ?_ -- region 3 formm.go:92
      refine wl (ro_move rfl) ?_
      refine wl (ro_move rfl) ?_
      refine wl (ro_lenS rfl st_9) ?_
      refine wl (ro_cmp (r := true) rfl rfl (congrArg some (decide_eq_true (by omega)))) ?_
      refine wl (ro_move rfl) ?_
      refine wlg_yes rfl (ro_move rfl) ?_
      refine wlg_yes rfl (ro_move rfl) ?_
      refine wlg_yes rfl (ro_indexS rfl rfl st_9 rfl (h0)) ?_
      refine wlg_yes rfl (ro_cmp (r := false) rfl rfl (congrArg some ((beqc c.toNat 36).trans (decide_eq_false (by omega))))) ?_
      refine wl (ro_pick rfl rfl rfl) ?_
      refine wl_nil (x_then (hK4 _ _ ?_))
      clear hK4 K4
      refine wc_condF rfl ?_
      refine c_skip (x_then ?_)
      first
        | exact ⟨1, true, hres.symm, by omega, hR, hC, hF, kp _ ⟨rfl, rfl, rfl, rfl, trivial⟩⟩
        | exact ⟨0, false, hres.symm, by omega, hR, hC, hF, kp _ ⟨rfl, rfl, rfl, rfl, trivial⟩⟩
    · skip
      have hul := (List.getElem?_eq_some_iff.1 h0).1
      rw [refOf_ab h0] at hres
      refine c_reg ?_ -- region 3 formm.go:92
      refine wl (ro_move rfl) ?_
      refine wl (ro_move rfl) ?_
      refine wl (ro_lenS rfl st_9) ?_
      refine wl (ro_cmp (r := true) rfl rfl (congrArg some (decide_eq_true (by omega)))) ?_
      refine wl (ro_move rfl) ?_
      refine wlg_yes rfl (ro_move rfl) ?_
      refine wlg_yes rfl (ro_move rfl) ?_
      refine wlg_yes rfl (ro_indexS rfl rfl st_9 rfl (h0)) ?_
      refine wlg_yes rfl (ro_cmp (r := true) rfl rfl rfl) ?_
      refine wl (ro_pick rfl rfl rfl) ?_
      refine wl_nil (x_then (hK4 _ _ ?_))
      clear hK4 K4
      refine wc_condT rfl ?_
      refine c_seq (fun K5 hK5 => ?_)
      refine c_reg ?_ -- region 4 formm.go:93
      refine wl (ro_fieldAddr (k := 2) rfl fo_141_2) ?_
      refine wl_put rfl rfl rfl sz_4 hC ((by simp)) ((show _ = refc ⟨0, 0, true, false⟩ from rfl)) (fun w4 hC F4 => ?_)
      replace hF := hF.thenDrew.thenO F4 (by first | exact .inr (by omega) | exact .inl rfl | exact .inl (by assumption))
      replace hR := F4.blkO hR (by omega)
      refine wl_nil (x_then (hK5 _ _ ?_))
      clear hK5 K5
      refine c_reg ?_ -- region 5 formm.go:94
      refine wl (ro_move rfl) ?_
      refine wl (ro_arith (r := 1) rfl rfl rfl (Go.IntWalk.i64_in _ (by omega))) ?_
      refine wl (ro_assign rfl) ?_
      refine wl_nil (x_then ?_)
      first
        | exact ⟨1, true, hres.symm, by omega, hR, hC, hF, kp _ ⟨rfl, rfl, rfl, rfl, trivial⟩⟩
        | exact ⟨0, false, hres.symm, by omega, hR, hC, hF, kp _ ⟨rfl, rfl, rfl, rfl, trivial⟩⟩
  clear hR hC hF
  rintro a' u1 ⟨i1, ac, hO, hi1, hR, hC, hF, e, rfl⟩
  have hsz := hF.size
  refine c_seq (fun K6 hK6 => ?_)
  refine c_seq (fun K7 hK7 => ?_)
  have hcs : u.length ≤ i1 ∨ (∃ l, u[i1]? = some l ∧ l.toNat < 65 ∧ cp l = false) ∨ (∃ l, u[i1]? = some l ∧ 90 < l.toNat ∧ cp l = false) ∨ (∃ l, u[i1]? = some l ∧ 65 ≤ l.toNat ∧ l.toNat ≤ 90) := by
    by_cases h : i1 < u.length
    · have hx := List.getElem?_eq_getElem h
      by_cases h1 : u[i1].toNat < 65
      · exact .inr (.inl ⟨_, hx, h1, cp_not.2 (by omega)⟩)
      · by_cases h2 : 90 < u[i1].toNat
        · exact .inr (.inr (.inl ⟨_, hx, h2, cp_not.2 (by omega)⟩))
        · exact .inr (.inr (.inr ⟨_, hx, by omega, by omega⟩))
    · exact .inl (by omega)
  rcases hcs with hge | ⟨l, hl, q, hn⟩ | ⟨l, hl, q, hn⟩ | ⟨l, hl, q⟩
  · skip
    have hO2 : O = none := by rw [hO, List.drop_eq_nil_of_le hge]; rfl
    refine c_reg ?_ -- region 6 formm.go:96
    refine wl (ro_move rfl) ?_
    refine wl (ro_move rfl) ?_
    refine wl (ro_lenS rfl st_9) ?_
    refine wl (ro_cmp (r := true) rfl rfl (congrArg some (decide_eq_true (by omega)))) ?_
    refine wl (ro_move rfl) ?_
    refine wlg_no rfl ?_
    refine wlg_no rfl ?_
    refine wlg_no rfl ?_
    refine wlg_no rfl ?_
    refine wl (ro_pick rfl rfl rfl) ?_
    refine wl (ro_move rfl) ?_
    refine wlg_no rfl ?_
    refine wlg_no rfl ?_
    refine wlg_no rfl ?_
    refine wlg_no rfl ?_
    refine wl (ro_pick rfl rfl rfl) ?_
    refine wl_nil (x_then (hK7 _ _ ?_))
    clear hK7 K7
    refine wc_condT rfl ?_
    refine c_seq (fun K8 hK8 => ?_)
    refine c_reg ?_ -- region 7 formm.go:97
    refine wl (ro_build rfl bld_141) ?_
    refine wl_puta rfl rfl (by simp [Value.oneCell', i64c, u64c, u8c, ptr]) sz_141 (rfl) hR ((by simp)) ((show _ = refc zR from rfl)) (fun w5 hR F5 => ?_)
    replace hF := hF.thenDrew.thenO F5 (by first | exact .inr (by omega) | exact .inl rfl | exact .inl (by assumption))
    replace hC := F5.blkO hC (by omega)
    refine wl (ro_assign rfl) ?_
    refine wl_nil (x_then (hK8 _ _ ?_))
    clear hK8 K8
    refine c_ret (x_thenR ?_)
    refine bq_ret (res2 Tryz.results230 (rv_c rfl ag_141 (hR) rfl) (rv_t rfl)) ?_
    rw [hO2]; exact ⟨rfl, hF⟩
  · skip
    have hil := (List.getElem?_eq_some_iff.1 hl).1
    have hO2 : O = none := by rw [hO, drop_get hl, refB_ncp hn]
    refine c_reg ?_ -- region 6 formm.go:96
    refine wl (ro_move rfl) ?_
    refine wl (ro_move rfl) ?_
    refine wl (ro_lenS rfl st_9) ?_
    refine wl (ro_cmp (r := false) rfl rfl (congrArg some (decide_eq_false (by omega)))) ?_
    refine wl (ro_move rfl) ?_
    refine wlg_yes rfl (ro_move rfl) ?_
    refine wlg_yes rfl (ro_move rfl) ?_
    refine wlg_yes rfl (ro_indexS rfl rfl st_9 rfl (hl)) ?_
    refine wlg_yes rfl (ro_cmp (r := true) rfl rfl (congrArg some (decide_eq_true (by omega)))) ?_
    refine wl (ro_pick rfl rfl rfl) ?_
    refine wl (ro_move rfl) ?_
    refine wlg_no rfl ?_
    refine wlg_no rfl ?_
    refine wlg_no rfl ?_
    refine wlg_no rfl ?_
    refine wl (ro_pick rfl rfl rfl) ?_
    refine wl_nil (x_then (hK7 _ _ ?_))
    clear hK7 K7
    refine wc_condT rfl ?_
    refine c_seq (fun K9 hK9 => ?_)
    refine c_reg ?_ -- region 7 formm.go:97
    refine wl (ro_build rfl bld_141) ?_
    refine wl_puta rfl rfl (by simp [Value.oneCell', i64c, u64c, u8c, ptr]) sz_141 (rfl) hR ((by simp)) ((show _ = refc zR from rfl)) (fun w6 hR F6 => ?_)
    replace hF := hF.thenDrew.thenO F6 (by first | exact .inr (by omega) | exact .inl rfl | exact .inl (by assumption))
    replace hC := F6.blkO hC (by omega)
    refine wl (ro_assign rfl) ?_
    refine wl_nil (x_then (hK9 _ _ ?_))
    clear hK9 K9
    refine c_ret (x_thenR ?_)
    refine bq_ret (res2 Tryz.results230 (rv_c rfl ag_141 (hR) rfl) (rv_t rfl)) ?_
    rw [hO2]; exact ⟨rfl, hF⟩
  · skip
    have hil := (List.getElem?_eq_some_iff.1 hl).1
    have hO2 : O = none := by rw [hO, drop_get hl, refB_ncp hn]
    refine c_reg ?_ -- region 6 formm.go:96
    refine wl (ro_move rfl) ?_
    refine wl (ro_move rfl) ?_
    refine wl (ro_lenS rfl st_9) ?_
    refine wl (ro_cmp (r := false) rfl rfl (congrArg some (decide_eq_false (by omega)))) ?_
    refine wl (ro_move rfl) ?_
    refine wlg_yes rfl (ro_move rfl) ?_
    refine wlg_yes rfl (ro_move rfl) ?_
    refine wlg_yes rfl (ro_indexS rfl rfl st_9 rfl (hl)) ?_
    refine wlg_yes rfl (ro_cmp (r := false) rfl rfl (congrArg some (decide_eq_false (by omega)))) ?_
    refine wl (ro_pick rfl rfl rfl) ?_
    refine wl (ro_move rfl) ?_
    refine wlg_yes rfl (ro_move rfl) ?_
    refine wlg_yes rfl (ro_move rfl) ?_
    refine wlg_yes rfl (ro_indexS rfl rfl st_9 rfl (hl)) ?_
    refine wlg_yes rfl (ro_cmp (r := true) rfl rfl (congrArg some (decide_eq_true (by omega)))) ?_
    refine wl (ro_pick rfl rfl rfl) ?_
    refine wl_nil (x_then (hK7 _ _ ?_))
    clear hK7 K7
    refine wc_condT rfl ?_
    refine c_seq (fun K10 hK10 => ?_)
    refine c_reg ?_ -- region 7 formm.go:97
    refine wl (ro_build rfl bld_141) ?_
    refine wl_puta rfl rfl (by simp [Value.oneCell', i64c, u64c, u8c, ptr]) sz_141 (rfl) hR ((by simp)) ((show _ = refc zR from rfl)) (fun w7 hR F7 => ?_)
    replace hF := hF.thenDrew.thenO F7 (by first | exact .inr (by omega) | exact .inl rfl | exact .inl (by assumption))
    replace hC := F7.blkO hC (by omega)
    refine wl (ro_assign rfl) ?_
    refine wl_nil (x_then (hK10 _ _ ?_))
    clear hK10 K10
    refine c_ret (x_thenR ?_)
    refine bq_ret (res2 Tryz.results230 (rv_c rfl ag_141 (hR) rfl) (rv_t rfl)) ?_
    rw [hO2]; exact ⟨rfl, hF⟩
  · skip
    have hil := (List.getElem?_eq_some_iff.1 hl).1
    have hcp := cp_iff.2 q
    refine c_reg ?_ -- region 6 formm.go:96
    refine wl (ro_move rfl) ?_
    refine wl (ro_move rfl) ?_
    refine wl (ro_lenS rfl st_9) ?_
    refine wl (ro_cmp (r := false) rfl rfl (congrArg some (decide_eq_false (by omega)))) ?_
    refine wl (ro_move rfl) ?_
    refine wlg_yes rfl (ro_move rfl) ?_
    refine wlg_yes rfl (ro_move rfl) ?_
    refine wlg_yes rfl (ro_indexS rfl rfl st_9 rfl (hl)) ?_
    refine wlg_yes rfl (ro_cmp (r := false) rfl rfl (congrArg some (decide_eq_false (by omega)))) ?_
    refine wl (ro_pick rfl rfl rfl) ?_
    refine wl (ro_move rfl) ?_
    refine wlg_yes rfl (ro_move rfl) ?_
    refine wlg_yes rfl (ro_move rfl) ?_
    refine wlg_yes rfl (ro_indexS rfl rfl st_9 rfl (hl)) ?_
    refine wlg_yes rfl (ro_cmp (r := false) rfl rfl (congrArg some (decide_eq_false (by omega)))) ?_
    refine wl (ro_pick rfl rfl rfl) ?_
    refine wl_nil (x_then (hK7 _ _ ?_))
    clear hK7 K7
    refine wc_condF rfl ?_
    refine c_skip (x_then (hK6 _ _ ?_))
    clear hK6 K6
    refine forget [(0, _), (2, _), (4, _), (5, _)] ⟨rfl, rfl, rfl, rfl, trivial⟩ (fun e => ?_)
    refine c_seq (fun K11 hK11 => ?_)
    refine c_reg ?_ -- region 8 formm.go:99
    refine wl (ro_move rfl) ?_
    refine wl (ro_move rfl) ?_
    refine wl (ro_indexS rfl rfl st_9 rfl (hl)) ?_
    refine wl (ro_arith (r := ((l.toNat - 65 : Nat) : Int)) rfl rfl (congrArg some (by show (l.toNat : Int) - 65 = _; omega)) (Go.IntWalk.u8_in _ (by omega))) ?_
    refine wl (ro_conv rfl sc_5 in_3 (Go.IntWalk.i64_in _ (by omega))) ?_
    refine wl (ro_fieldAddr (k := 0) rfl fo_141_0) ?_
    refine wl_put rfl rfl rfl sz_3 hC ((by simp)) ((show _ = refc ⟨((l.toNat - 65 : Nat) : Int), 0, ac, false⟩ from rfl)) (fun w8 hC F8 => ?_)
    replace hF := hF.thenDrew.thenO F8 (by first | exact .inr (by omega) | exact .inl rfl | exact .inl (by assumption))
    replace hR := F8.blkO hR (by omega)
    refine wl_nil (x_then (hK11 _ _ ?_))
    clear hK11 K11
    refine forget [(0, _), (2, _), (4, _), (5, _)] ⟨rfl, rfl, rfl, rfl, trivial⟩ (fun e => ?_)
    refine c_seq (fun K12 hK12 => ?_)
    refine c_reg ?_ -- region 9 formm.go:100
    refine wl (ro_move rfl) ?_
    refine wl (ro_arith (r := ((i1 + 1 : Nat) : Int)) rfl rfl rfl (Go.IntWalk.i64_in _ (by omega))) ?_
    refine wl (ro_assign rfl) ?_
    refine wl_nil (x_then (hK12 _ _ ?_))
    clear hK12 K12
    refine c_mid (fun a' w' => ∃ (i2 : Nat) (ab : Bool), O = rowF ((l.toNat - 65 : Nat) : Int) ac ab (u.drop i2) ∧ i2 ≤ u.length ∧ Blk w'.heap rb (refc zR) 141 ∧ Blk w'.heap cb (refc ⟨((l.toNat - 65 : Nat) : Int), 0, ac, ab⟩) 141 ∧ Fram none' w w' ∧ ∃ e, a' = Fr 112 (upds e [(0, S u), (2, ptr rb), (4, ptr cb), (5, i64c i2)]) []) ?_ ?_
    · skip
      refine c_seq (fun K13 hK13 => ?_)
      have hcl : ((l.toNat - 65 : Nat) : Int) = (l.toNat : Int) - 65 := by omega
      have hcs : u.length ≤ i1 + 1 ∨ (∃ c, u[i1 + 1]? = some c ∧ c.toNat ≠ 36) ∨ u[i1 + 1]? = some 36 := by
        by_cases h : i1 + 1 < u.length
        · have hx := List.getElem?_eq_getElem h
          by_cases h1 : u[i1 + 1].toNat = 36
          · exact .inr (.inr (by rw [hx, c36.2 h1]))
          · exact .inr (.inl ⟨_, hx, h1⟩)
        · exact .inl (by omega)
      rcases hcs with h0 | ⟨c, h0, hc⟩ | h0
      · skip
        have hO3 : O = rowF ((l.toNat - 65 : Nat) : Int) ac false (u.drop (i1 + 1)) := by rw [hO, drop_get hl, hcl, refB_rel hcp (by rw [List.drop_eq_nil_of_le h0]; simp)]
        refine c_reg ?_ -- region 10 formm.go:101
        refine wl (ro_move rfl) ?_
        refine wl (ro_move rfl) ?_
        refine wl (ro_lenS rfl st_9) ?_
        refine wl (ro_cmp (r := false) rfl rfl (congrArg some (decide_eq_false (by show ¬ (((i1 + 1 : Nat) : Int) < (u.length : Int)); omega)))) ?_
        refine wl (ro_move rfl) ?_
        refine wlg_no rfl ?_
        refine wlg_no rfl ?_
        refine wlg_no rfl ?_
        refine wlg_no rfl ?_
        refine wl (ro_pick rfl rfl rfl) ?_
        refine wl_nil (x_then (hK13 _ _ ?_))
        clear hK13 K13
        refine wc_condF rfl ?_
        refine c_skip (x_then ?_)
        first
          | exact ⟨i1 + 2, true, hO3, by omega, hR, hC, hF, kp _ ⟨rfl, rfl, rfl, rfl, trivial⟩⟩
          | exact ⟨i1 + 1, false, hO3, by omega, hR, hC, hF, kp _ ⟨rfl, rfl, rfl, rfl, trivial⟩⟩
      · skip
        have hul := (List.getElem?_eq_some_iff.1 h0).1
        have hO3 : O = rowF ((l.toNat - 65 : Nat) : Int) ac false (u.drop (i1 + 1)) := by rw [hO, drop_get hl, hcl, refB_rel hcp (by rw [drop_get h0]; intro r e; cases e; exact hc rfl)]
        refine c_reg ?_ -- region 10 formm.go:101
        refine wl (ro_move rfl) ?_
        refine wl (ro_move rfl) ?_
        refine wl (ro_lenS rfl st_9) ?_
        refine wl (ro_cmp (r := true) rfl rfl (congrArg some (decide_eq_true (by show ((i1 + 1 : Nat) : Int) < (u.length : Int); omega)))) ?_
        refine wl (ro_move rfl) ?_
        refine wlg_yes rfl (ro_move rfl) ?_
        refine wlg_yes rfl (ro_move rfl) ?_
        refine wlg_yes rfl (ro_indexS rfl rfl st_9 rfl (h0)) ?_
        refine wlg_yes rfl (ro_cmp (r := false) rfl rfl (congrArg some ((beqc c.toNat 36).trans (decide_eq_false (by omega))))) ?_
        refine wl (ro_pick rfl rfl rfl) ?_
        refine wl_nil (x_then (hK13 _ _ ?_))
        clear hK13 K13
        refine wc_condF rfl ?_
        refine c_skip (x_then ?_)
        first
          | exact ⟨i1 + 2, true, hO3, by omega, hR, hC, hF, kp _ ⟨rfl, rfl, rfl, rfl, trivial⟩⟩
          | exact ⟨i1 + 1, false, hO3, by omega, hR, hC, hF, kp _ ⟨rfl, rfl, rfl, rfl, trivial⟩⟩
      · skip
        have hul := (List.getElem?_eq_some_iff.1 h0).1
        have hO3 : O = rowF ((l.toNat - 65 : Nat) : Int) ac true (u.drop (i1 + 2)) := by rw [hO, drop_get hl, drop_get h0, hcl, refB_abs hcp]
        refine c_reg ?_ -- region 10 formm.go:101
        refine wl (ro_move rfl) ?_
        refine wl (ro_move rfl) ?_
        refine wl (ro_lenS rfl st_9) ?_
        refine wl (ro_cmp (r := true) rfl rfl (congrArg some (decide_eq_true (by show ((i1 + 1 : Nat) : Int) < (u.length : Int); omega)))) ?_
        refine wl (ro_move rfl) ?_
        refine wlg_yes rfl (ro_move rfl) ?_
        refine wlg_yes rfl (ro_move rfl) ?_
        refine wlg_yes rfl (ro_indexS rfl rfl st_9 rfl (h0)) ?_
        refine wlg_yes rfl (ro_cmp (r := true) rfl rfl rfl) ?_
        refine wl (ro_pick rfl rfl rfl) ?_
        refine wl_nil (x_then (hK13 _ _ ?_))
        clear hK13 K13
        refine wc_condT rfl ?_
        refine c_seq (fun K14 hK14 => ?_)
        refine c_reg ?_ -- region 11 formm.go:102
        refine wl (ro_fieldAddr (k := 3) rfl fo_141_3) ?_
        refine wl_put rfl rfl rfl sz_4 hC ((by simp)) ((show _ = refc ⟨((l.toNat - 65 : Nat) : Int), 0, ac, true⟩ from rfl)) (fun w9 hC F9 => ?_)
        replace hF := hF.thenDrew.thenO F9 (by first | exact .inr (by omega) | exact .inl rfl | exact .inl (by assumption))
        replace hR := F9.blkO hR (by omega)
        refine wl_nil (x_then (hK14 _ _ ?_))
        clear hK14 K14
        refine c_reg ?_ -- region 12 formm.go:103
        refine wl (ro_move rfl) ?_
        refine wl (ro_arith (r := ((i1 + 2 : Nat) : Int)) rfl rfl rfl (Go.IntWalk.i64_in _ (by omega))) ?_
        refine wl (ro_assign rfl) ?_
        refine wl_nil (x_then ?_)
        first
          | exact ⟨i1 + 2, true, hO3, by omega, hR, hC, hF, kp _ ⟨rfl, rfl, rfl, rfl, trivial⟩⟩
          | exact ⟨i1 + 1, false, hO3, by omega, hR, hC, hF, kp _ ⟨rfl, rfl, rfl, rfl, trivial⟩⟩
    clear hR hC hF hO
    rintro a' u2 ⟨i2, ab, hO, hi2, hR, hC, hF, e, rfl⟩
    generalize ((l.toNat - 65 : Nat) : Int) = cl at hO hC
    generalize ht2 : u.drop i2 = t2 at hO
    have htl : t2.length = u.length - i2 := by rw [← ht2, List.length_drop]
    have htg : ∀ k, t2[k]? = u[i2 + k]? := fun k => by rw [← ht2, List.getElem?_drop]
    refine c_seq (fun K15 hK15 => ?_)
    refine c_reg ?_ -- region 13 formm.go:105
    refine wl (ro_move rfl) ?_
    refine wl (ro_lenS rfl st_9) ?_
    refine wl (ro_move rfl) ?_
    refine wl (ro_arith (r := ((t2.length : Nat) : Int)) rfl rfl (congrArg some (by show (u.length : Int) - (i2 : Int) = _; omega)) (Go.IntWalk.i64_in _ (by omega))) ?_
    refine wl (ro_assign rfl) ?_
    refine wl_nil (x_then (hK15 _ _ ?_))
    clear hK15 K15
    refine c_seq (fun K16 hK16 => ?_)
    refine c_seq (fun K17 hK17 => ?_)
    have hcs : t2.length = 0 ∨ 2 < t2.length ∨ (1 ≤ t2.length ∧ t2.length ≤ 2 ∧ ∃ d, u[i2]? = some d ∧ d.toNat < 49) ∨ (1 ≤ t2.length ∧ t2.length ≤ 2 ∧ ∃ d, u[i2]? = some d ∧ 57 < d.toNat) ∨ (1 ≤ t2.length ∧ t2.length ≤ 2 ∧ ∃ d, u[i2]? = some d ∧ 49 ≤ d.toNat ∧ d.toNat ≤ 57) := by
      by_cases h1 : t2.length = 0
      · exact .inl h1
      · by_cases h2 : 2 < t2.length
        · exact .inr (.inl h2)
        · have hx := List.getElem?_eq_getElem (show i2 < u.length by omega)
          by_cases h3 : u[i2].toNat < 49
          · exact .inr (.inr (.inl ⟨by omega, by omega, _, hx, h3⟩))
          · by_cases h4 : 57 < u[i2].toNat
            · exact .inr (.inr (.inr (.inl ⟨by omega, by omega, _, hx, h4⟩)))
            · exact .inr (.inr (.inr (.inr ⟨by omega, by omega, _, hx, by omega, by omega⟩)))
    rcases hcs with h1 | h1 | ⟨h1, h2, d, hd, q1⟩ | ⟨h1, h2, d, hd, q1⟩ | ⟨h1, h2, d, hd, q1⟩
    · skip
      have hO4 : O = none := by rw [hO, List.length_eq_zero_iff.1 h1]; rfl
      refine c_reg ?_ -- region 14 formm.go:106
      refine wl (ro_move rfl) ?_
      refine wl (ro_cmp (r := true) rfl rfl (congrArg some (decide_eq_true (by omega)))) ?_
      refine wl (ro_move rfl) ?_
      refine wlg_no rfl ?_
      refine wlg_no rfl ?_
      refine wl (ro_pick rfl rfl rfl) ?_
      refine wl (ro_move rfl) ?_
      refine wlg_no rfl ?_
      refine wlg_no rfl ?_
      refine wlg_no rfl ?_
      refine wlg_no rfl ?_
      refine wl (ro_pick rfl rfl rfl) ?_
      refine wl (ro_move rfl) ?_
      refine wlg_no rfl ?_
      refine wlg_no rfl ?_
      refine wlg_no rfl ?_
      refine wlg_no rfl ?_
      refine wl (ro_pick rfl rfl rfl) ?_
      refine wl_nil (x_then (hK17 _ _ ?_))
      clear hK17 K17
      refine wc_condT rfl ?_
      refine c_seq (fun K18 hK18 => ?_)
      refine c_reg ?_ -- region 15 formm.go:107
      refine wl (ro_build rfl bld_141) ?_
      refine wl_puta rfl rfl (by simp [Value.oneCell', i64c, u64c, u8c, ptr]) sz_141 (rfl) hR ((by simp)) ((show _ = refc zR from rfl)) (fun w10 hR F10 => ?_)
      replace hF := hF.thenDrew.thenO F10 (by first | exact .inr (by omega) | exact .inl rfl | exact .inl (by assumption))
      replace hC := F10.blkO hC (by omega)
      refine wl (ro_assign rfl) ?_
      refine wl_nil (x_then (hK18 _ _ ?_))
      clear hK18 K18
      refine c_ret (x_thenR ?_)
      refine bq_ret (res2 Tryz.results230 (rv_c rfl ag_141 (hR) rfl) (rv_t rfl)) ?_
      rw [hO4]; exact ⟨rfl, hF⟩
    · skip
      have hO4 : O = none := by rw [hO, rowF_long h1]
      refine c_reg ?_ -- region 14 formm.go:106
      refine wl (ro_move rfl) ?_
      refine wl (ro_cmp (r := false) rfl rfl (congrArg some (decide_eq_false (by omega)))) ?_
      refine wl (ro_move rfl) ?_
      refine wlg_yes rfl (ro_move rfl) ?_
      refine wlg_yes rfl (ro_cmp (r := true) rfl rfl (congrArg some (decide_eq_true (by omega)))) ?_
      refine wl (ro_pick rfl rfl rfl) ?_
      refine wl (ro_move rfl) ?_
      refine wlg_no rfl ?_
      refine wlg_no rfl ?_
      refine wlg_no rfl ?_
      refine wlg_no rfl ?_
      refine wl (ro_pick rfl rfl rfl) ?_
      refine wl (ro_move rfl) ?_
      refine wlg_no rfl ?_
      refine wlg_no rfl ?_
      refine wlg_no rfl ?_
      refine wlg_no rfl ?_
      refine wl (ro_pick rfl rfl rfl) ?_
      refine wl_nil (x_then (hK17 _ _ ?_))
      clear hK17 K17
      refine wc_condT rfl ?_
      refine c_seq (fun K19 hK19 => ?_)
      refine c_reg ?_ -- region 15 formm.go:107
      refine wl (ro_build rfl bld_141) ?_
      refine wl_puta rfl rfl (by simp [Value.oneCell', i64c, u64c, u8c, ptr]) sz_141 (rfl) hR ((by simp)) ((show _ = refc zR from rfl)) (fun w11 hR F11 => ?_)
      replace hF := hF.thenDrew.thenO F11 (by first | exact .inr (by omega) | exact .inl rfl | exact .inl (by assumption))
      replace hC := F11.blkO hC (by omega)
      refine wl (ro_assign rfl) ?_
      refine wl_nil (x_then (hK19 _ _ ?_))
      clear hK19 K19
      refine c_ret (x_thenR ?_)
      refine bq_ret (res2 Tryz.results230 (rv_c rfl ag_141 (hR) rfl) (rv_t rfl)) ?_
      rw [hO4]; exact ⟨rfl, hF⟩
    · skip
      have hO4 : O = none := by rw [hO, ← ht2, drop_get hd, rowF_hd (d1_not.2 (by omega))]
      refine c_reg ?_ -- region 14 formm.go:106
      refine wl (ro_move rfl) ?_
      refine wl (ro_cmp (r := false) rfl rfl (congrArg some (decide_eq_false (by omega)))) ?_
      refine wl (ro_move rfl) ?_
      refine wlg_yes rfl (ro_move rfl) ?_
      refine wlg_yes rfl (ro_cmp (r := false) rfl rfl (congrArg some (decide_eq_false (by omega)))) ?_
      refine wl (ro_pick rfl rfl rfl) ?_
      refine wl (ro_move rfl) ?_
      refine wlg_yes rfl (ro_move rfl) ?_
      refine wlg_yes rfl (ro_move rfl) ?_
      refine wlg_yes rfl (ro_indexS rfl rfl st_9 rfl (hd)) ?_
      refine wlg_yes rfl (ro_cmp (r := true) rfl rfl (congrArg some (decide_eq_true (by omega)))) ?_
      refine wl (ro_pick rfl rfl rfl) ?_
      refine wl (ro_move rfl) ?_
      refine wlg_no rfl ?_
      refine wlg_no rfl ?_
      refine wlg_no rfl ?_
      refine wlg_no rfl ?_
      refine wl (ro_pick rfl rfl rfl) ?_
      refine wl_nil (x_then (hK17 _ _ ?_))
      clear hK17 K17
      refine wc_condT rfl ?_
      refine c_seq (fun K20 hK20 => ?_)
      refine c_reg ?_ -- region 15 formm.go:107
      refine wl (ro_build rfl bld_141) ?_
      refine wl_puta rfl rfl (by simp [Value.oneCell', i64c, u64c, u8c, ptr]) sz_141 (rfl) hR ((by simp)) ((show _ = refc zR from rfl)) (fun w12 hR F12 => ?_)
      replace hF := hF.thenDrew.thenO F12 (by first | exact .inr (by omega) | exact .inl rfl | exact .inl (by assumption))
      replace hC := F12.blkO hC (by omega)
      refine wl (ro_assign rfl) ?_
      refine wl_nil (x_then (hK20 _ _ ?_))
      clear hK20 K20
      refine c_ret (x_thenR ?_)
      refine bq_ret (res2 Tryz.results230 (rv_c rfl ag_141 (hR) rfl) (rv_t rfl)) ?_
      rw [hO4]; exact ⟨rfl, hF⟩
    · skip
      have hO4 : O = none := by rw [hO, ← ht2, drop_get hd, rowF_hd (d1_not.2 (by omega))]
      refine c_reg ?_ -- region 14 formm.go:106
      refine wl (ro_move rfl) ?_
      refine wl (ro_cmp (r := false) rfl rfl (congrArg some (decide_eq_false (by omega)))) ?_
      refine wl (ro_move rfl) ?_
      refine wlg_yes rfl (ro_move rfl) ?_
      refine wlg_yes rfl (ro_cmp (r := false) rfl rfl (congrArg some (decide_eq_false (by omega)))) ?_
      refine wl (ro_pick rfl rfl rfl) ?_
      refine wl (ro_move rfl) ?_
      refine wlg_yes rfl (ro_move rfl) ?_
      refine wlg_yes rfl (ro_move rfl) ?_
      refine wlg_yes rfl (ro_indexS rfl rfl st_9 rfl (hd)) ?_
      refine wlg_yes rfl (ro_cmp (r := false) rfl rfl (congrArg some (decide_eq_false (by omega)))) ?_
      refine wl (ro_pick rfl rfl rfl) ?_
      refine wl (ro_move rfl) ?_
      refine wlg_yes rfl (ro_move rfl) ?_
      refine wlg_yes rfl (ro_move rfl) ?_
      refine wlg_yes rfl (ro_indexS rfl rfl st_9 rfl (hd)) ?_
      refine wlg_yes rfl (ro_cmp (r := true) rfl rfl (congrArg some (decide_eq_true (by omega)))) ?_
      refine wl (ro_pick rfl rfl rfl) ?_
      refine wl_nil (x_then (hK17 _ _ ?_))
      clear hK17 K17
      refine wc_condT rfl ?_
      refine c_seq (fun K21 hK21 => ?_)
      refine c_reg ?_ -- region 15 formm.go:107
      refine wl (ro_build rfl bld_141) ?_
      refine wl_puta rfl rfl (by simp [Value.oneCell', i64c, u64c, u8c, ptr]) sz_141 (rfl) hR ((by simp)) ((show _ = refc zR from rfl)) (fun w13 hR F13 => ?_)
      replace hF := hF.thenDrew.thenO F13 (by first | exact .inr (by omega) | exact .inl rfl | exact .inl (by assumption))
      replace hC := F13.blkO hC (by omega)
      refine wl (ro_assign rfl) ?_
      refine wl_nil (x_then (hK21 _ _ ?_))
      clear hK21 K21
      refine c_ret (x_thenR ?_)
      refine bq_ret (res2 Tryz.results230 (rv_c rfl ag_141 (hR) rfl) (rv_t rfl)) ?_
      rw [hO4]; exact ⟨rfl, hF⟩
    · skip
      refine c_reg ?_ -- region 14 formm.go:106
      refine wl (ro_move rfl) ?_
      refine wl (ro_cmp (r := false) rfl rfl (congrArg some (decide_eq_false (by omega)))) ?_
      refine wl (ro_move rfl) ?_
      refine wlg_yes rfl (ro_move rfl) ?_
      refine wlg_yes rfl (ro_cmp (r := false) rfl rfl (congrArg some (decide_eq_false (by omega)))) ?_
      refine wl (ro_pick rfl rfl rfl) ?_
      refine wl (ro_move rfl) ?_
      refine wlg_yes rfl (ro_move rfl) ?_
      refine wlg_yes rfl (ro_move rfl) ?_
      refine wlg_yes rfl (ro_indexS rfl rfl st_9 rfl (hd)) ?_
      refine wlg_yes rfl (ro_cmp (r := false) rfl rfl (congrArg some (decide_eq_false (by omega)))) ?_
      refine wl (ro_pick rfl rfl rfl) ?_
      refine wl (ro_move rfl) ?_
      refine wlg_yes rfl (ro_move rfl) ?_
      refine wlg_yes rfl (ro_move rfl) ?_
      refine wlg_yes rfl (ro_indexS rfl rfl st_9 rfl (hd)) ?_
      refine wlg_yes rfl (ro_cmp (r := false) rfl rfl (congrArg some (decide_eq_false (by omega)))) ?_
      refine wl (ro_pick rfl rfl rfl) ?_
      refine wl_nil (x_then (hK17 _ _ ?_))
      clear hK17 K17
      refine wc_condF rfl ?_
      refine c_skip (x_then (hK16 _ _ ?_))
      clear hK16 K16
      refine forget [(0, _), (2, _), (4, _), (5, _)] ⟨rfl, rfl, rfl, rfl, trivial⟩ (fun e => ?_)
      refine c_seq (fun K22 hK22 => ?_)
      refine c_reg ?_ -- region 16 formm.go:109
      refine wl (ro_assign rfl) ?_
      refine wl_nil (x_then (hK22 _ _ ?_))
      clear hK22 K22
      refine forget [(0, _), (2, _), (4, _), (5, _), (7, _)] ⟨rfl, rfl, rfl, rfl, rfl, trivial⟩ (fun e => ?_)
      refine c_seq (fun K23 hK23 => ?_)
      refine c_block ?_
      -- loop@r17: live slots [0, 2, 4, 5, 7]
      refine c_loopG (fun m a' w' => ∃ (k : Nat), m = t2.length - k ∧ k ≤ t2.length ∧ (∀ x ∈ t2.take k, dg x = true) ∧ Blk w'.heap rb (refc zR) 141 ∧ Blk w'.heap cb (refc ⟨cl, 0, ac, ab⟩) 141 ∧ Fram none' w w' ∧ ∃ e, a' = Fr 112 (upds e [(0, S u), (2, ptr rb), (4, ptr cb), (5, i64c (i2 + k)), (7, i64c (numF (t2.take k)))]) []) t2.length ⟨0, rfl, by omega, by simp, hR, hC, hF, kp _ ⟨rfl, rfl, rfl, rfl, rfl, trivial⟩⟩ ?_
      clear hR hC hF
      rintro m a' u4 ⟨k, rfl, hk, hall, hR, hC, hF, e, rfl⟩
      have hnl := numF_all (d := t2.take k) 2 hall (by omega)
      rw [List.take_of_length_le (by rw [List.length_take]; omega)] at hnl
      refine c_seq (fun K24 hK24 => ?_)
      refine c_seq (fun K25 hK25 => ?_)
      have hcs : k = t2.length ∨ (k < t2.length ∧ ∃ x, u[i2 + k]? = some x ∧ x.toNat < 48 ∧ dg x = false) ∨ (k < t2.length ∧ ∃ x, u[i2 + k]? = some x ∧ 57 < x.toNat ∧ dg x = false) ∨ (k < t2.length ∧ ∃ x, u[i2 + k]? = some x ∧ 48 ≤ x.toNat ∧ x.toNat ≤ 57) := by
        by_cases h : k = t2.length
        · exact .inl h
        · have hx := List.getElem?_eq_getElem (show i2 + k < u.length by omega)
          by_cases h3 : u[i2 + k].toNat < 48
          · exact .inr (.inl ⟨by omega, _, hx, h3, dg_not.2 (by omega)⟩)
          · by_cases h4 : 57 < u[i2 + k].toNat
            · exact .inr (.inr (.inl ⟨by omega, _, hx, h4, dg_not.2 (by omega)⟩))
            · exact .inr (.inr (.inr ⟨by omega, _, hx, by omega, by omega⟩))
      rcases hcs with hkl | ⟨hkl, x, hx, q2, hnd⟩ | ⟨hkl, x, hx, q2, hnd⟩ | ⟨hkl, x, hx, q2⟩
      · skip
        refine c_reg ?_ -- region 17 formm.go:110
        refine wl (ro_move rfl) ?_
        refine wl (ro_move rfl) ?_
        refine wl (ro_lenS rfl st_9) ?_
        refine wl (ro_cmp (r := false) rfl rfl (congrArg some (decide_eq_false (by show ¬ (((i2 + k : Nat) : Int) < (u.length : Int)); omega)))) ?_
        refine wl_nil (x_then (hK25 _ _ ?_))
        clear hK25 K25
        refine wc_condF rfl ?_
        refine c_exit (x_thenX (x_thenX (x_blkX (x_then (hK23 _ _ ?_)))))
        clear hK24 K24 hK23 K23
        refine forget [(2, _), (4, _), (7, _)] ⟨rfl, rfl, rfl, trivial⟩ (fun e => ?_)
        refine c_seq (fun K26 hK26 => ?_)
        have hO6 : O = some ⟨cl, (numF t2 : Int) - 1, ac, ab⟩ := by
          rw [hkl, List.take_of_length_le (Nat.le_refl _)] at hall
          rw [hO]
          have h7 : t2 = d :: u.drop (i2 + 1) := by rw [← ht2, drop_get hd]
          rw [h7] at hall htl h2 ⊢
          exact rowF_ok (d1_iff.2 (by omega)) h2 hall
        have hnt : numF (t2.take k) = numF t2 := by rw [hkl, List.take_of_length_le (Nat.le_refl _)]
        rw [hnt] at hnl
        refine c_reg ?_ -- region 22 formm.go:116
        refine wl (ro_move rfl) ?_
        refine wl (ro_arith (r := (numF t2 : Int) - 1) rfl rfl (congrArg some (by rw [hnt])) (Go.IntWalk.i64_in _ (by omega))) ?_
        refine wl (ro_fieldAddr (k := 1) rfl fo_141_1) ?_
        refine wl_put rfl rfl rfl sz_3 hC ((by simp)) ((show _ = refc ⟨cl, (numF t2 : Int) - 1, ac, ab⟩ from rfl)) (fun w14 hC F14 => ?_)
        replace hF := hF.thenDrew.thenO F14 (by first | exact .inr (by omega) | exact .inl rfl | exact .inl (by assumption))
        replace hR := F14.blkO hR (by omega)
        refine wl_nil (x_then (hK26 _ _ ?_))
        clear hK26 K26
        refine forget [(2, _), (4, _)] ⟨rfl, rfl, trivial⟩ (fun e => ?_)
        refine c_seq (fun K27 hK27 => ?_)
        refine c_reg ?_ -- region 23 formm.go:117
        refine wl (ro_loadAggB rfl ag_141 (hC) (rfl) (rfl)) ?_
        refine wl_puta rfl rfl (by simp [Value.oneCell', i64c, u64c, u8c, ptr]) sz_141 (rfl) hR ((by simp)) (rfl) (fun w15 hR F15 => ?_)
        replace hF := hF.thenDrew.thenO F15 (by first | exact .inr (by omega) | exact .inl rfl | exact .inl (by assumption))
        replace hC := F15.blkO hC (by omega)
        refine wl (ro_assign rfl) ?_
        refine wl_nil (x_then (hK27 _ _ ?_))
        clear hK27 K27
        refine c_ret ?_
        refine bq_ret (res2 Tryz.results230 (rv_c rfl ag_141 (hR) rfl) (rv_t rfl)) ?_
        rw [hO6]; exact ⟨rfl, hF⟩
      · skip
        have hO5 : O = none := by rw [hO, rowF_nd (k := k) (by rw [htg]; exact hx) hnd]
        refine c_reg ?_ -- region 17 formm.go:110
        refine wl (ro_move rfl) ?_
        refine wl (ro_move rfl) ?_
        refine wl (ro_lenS rfl st_9) ?_
        refine wl (ro_cmp (r := true) rfl rfl (congrArg some (decide_eq_true (by show ((i2 + k : Nat) : Int) < (u.length : Int); omega)))) ?_
        refine wl_nil (x_then (hK25 _ _ ?_))
        clear hK25 K25
        refine wc_condT rfl ?_
        refine c_skip (x_then (hK24 _ _ ?_))
        clear hK24 K24
        refine forget [(0, _), (2, _), (4, _), (5, _), (7, _)] ⟨rfl, rfl, rfl, rfl, rfl, trivial⟩ (fun e => ?_)
        refine c_seq (fun K28 hK28 => ?_)
        refine c_block ?_
        refine c_seq (fun K29 hK29 => ?_)
        refine c_seq (fun K30 hK30 => ?_)
        refine c_reg ?_ -- region 19 formm.go:111
        refine wl (ro_move rfl) ?_
        refine wl (ro_move rfl) ?_
        refine wl (ro_indexS rfl rfl st_9 rfl (hx)) ?_
        refine wl (ro_cmp (r := true) rfl rfl (congrArg some (decide_eq_true (by omega)))) ?_
        refine wl (ro_move rfl) ?_
        refine wlg_no rfl ?_
        refine wlg_no rfl ?_
        refine wlg_no rfl ?_
        refine wlg_no rfl ?_
        refine wl (ro_pick rfl rfl rfl) ?_
        refine wl_nil (x_then (hK30 _ _ ?_))
        clear hK30 K30
        refine wc_condT rfl ?_
        refine c_seq (fun K31 hK31 => ?_)
        refine c_reg ?_ -- region 20 formm.go:112
        refine wl (ro_build rfl bld_141) ?_
        refine wl_puta rfl rfl (by simp [Value.oneCell', i64c, u64c, u8c, ptr]) sz_141 (rfl) hR ((by simp)) ((show _ = refc zR from rfl)) (fun w16 hR F16 => ?_)
        replace hF := hF.thenDrew.thenO F16 (by first | exact .inr (by omega) | exact .inl rfl | exact .inl (by assumption))
        replace hC := F16.blkO hC (by omega)
        refine wl (ro_assign rfl) ?_
        refine wl_nil (x_then (hK31 _ _ ?_))
        clear hK31 K31
        refine c_ret (x_thenR (x_blkR (x_thenR (x_thenR (x_blkR (x_thenR ?_))))))
        refine bq_ret (res2 Tryz.results230 (rv_c rfl ag_141 (hR) rfl) (rv_t rfl)) ?_
        rw [hO5]; exact ⟨rfl, hF⟩
      · skip
        have hO5 : O = none := by rw [hO, rowF_nd (k := k) (by rw [htg]; exact hx) hnd]
        refine c_reg ?_ -- region 17 formm.go:110
        refine wl (ro_move rfl) ?_
        refine wl (ro_move rfl) ?_
        refine wl (ro_lenS rfl st_9) ?_
        refine wl (ro_cmp (r := true) rfl rfl (congrArg some (decide_eq_true (by show ((i2 + k : Nat) : Int) < (u.length : Int); omega)))) ?_
        refine wl_nil (x_then (hK25 _ _ ?_))
        clear hK25 K25
        refine wc_condT rfl ?_
        refine c_skip (x_then (hK24 _ _ ?_))
        clear hK24 K24
        refine forget [(0, _), (2, _), (4, _), (5, _), (7, _)] ⟨rfl, rfl, rfl, rfl, rfl, trivial⟩ (fun e => ?_)
        refine c_seq (fun K32 hK32 => ?_)
        refine c_block ?_
        refine c_seq (fun K33 hK33 => ?_)
        refine c_seq (fun K34 hK34 => ?_)
        refine c_reg ?_ -- region 19 formm.go:111
        refine wl (ro_move rfl) ?_
        refine wl (ro_move rfl) ?_
        refine wl (ro_indexS rfl rfl st_9 rfl (hx)) ?_
        refine wl (ro_cmp (r := false) rfl rfl (congrArg some (decide_eq_false (by omega)))) ?_
        refine wl (ro_move rfl) ?_
        refine wlg_yes rfl (ro_move rfl) ?_
        refine wlg_yes rfl (ro_move rfl) ?_
        refine wlg_yes rfl (ro_indexS rfl rfl st_9 rfl (hx)) ?_
        refine wlg_yes rfl (ro_cmp (r := true) rfl rfl (congrArg some (decide_eq_true (by omega)))) ?_
        refine wl (ro_pick rfl rfl rfl) ?_
        refine wl_nil (x_then (hK34 _ _ ?_))
        clear hK34 K34
        refine wc_condT rfl ?_
        refine c_seq (fun K35 hK35 => ?_)
        refine c_reg ?_ -- region 20 formm.go:112
        refine wl (ro_build rfl bld_141) ?_
        refine wl_puta rfl rfl (by simp [Value.oneCell', i64c, u64c, u8c, ptr]) sz_141 (rfl) hR ((by simp)) ((show _ = refc zR from rfl)) (fun w17 hR F17 => ?_)
        replace hF := hF.thenDrew.thenO F17 (by first | exact .inr (by omega) | exact .inl rfl | exact .inl (by assumption))
        replace hC := F17.blkO hC (by omega)
        refine wl (ro_assign rfl) ?_
        refine wl_nil (x_then (hK35 _ _ ?_))
        clear hK35 K35
        refine c_ret (x_thenR (x_blkR (x_thenR (x_thenR (x_blkR (x_thenR ?_))))))
        refine bq_ret (res2 Tryz.results230 (rv_c rfl ag_141 (hR) rfl) (rv_t rfl)) ?_
        rw [hO5]; exact ⟨rfl, hF⟩
      · skip
        have hsn : t2.take (k + 1) = t2.take k ++ [x] := take_snocG (by rw [htg]; exact hx)
        refine c_reg ?_ -- region 17 formm.go:110
        refine wl (ro_move rfl) ?_
        refine wl (ro_move rfl) ?_
        refine wl (ro_lenS rfl st_9) ?_
        refine wl (ro_cmp (r := true) rfl rfl (congrArg some (decide_eq_true (by show ((i2 + k : Nat) : Int) < (u.length : Int); omega)))) ?_
        refine wl_nil (x_then (hK25 _ _ ?_))
        clear hK25 K25
        refine wc_condT rfl ?_
        refine c_skip (x_then (hK24 _ _ ?_))
        clear hK24 K24
        refine forget [(0, _), (2, _), (4, _), (5, _), (7, _)] ⟨rfl, rfl, rfl, rfl, rfl, trivial⟩ (fun e => ?_)
        refine c_seq (fun K36 hK36 => ?_)
        refine c_block ?_
        refine c_seq (fun K37 hK37 => ?_)
        refine c_seq (fun K38 hK38 => ?_)
        refine c_reg ?_ -- region 19 formm.go:111
        refine wl (ro_move rfl) ?_
        refine wl (ro_move rfl) ?_
        refine wl (ro_indexS rfl rfl st_9 rfl (hx)) ?_
        refine wl (ro_cmp (r := false) rfl rfl (congrArg some (decide_eq_false (by omega)))) ?_
        refine wl (ro_move rfl) ?_
        refine wlg_yes rfl (ro_move rfl) ?_
        refine wlg_yes rfl (ro_move rfl) ?_
        refine wlg_yes rfl (ro_indexS rfl rfl st_9 rfl (hx)) ?_
        refine wlg_yes rfl (ro_cmp (r := false) rfl rfl (congrArg some (decide_eq_false (by omega)))) ?_
        refine wl (ro_pick rfl rfl rfl) ?_
        refine wl_nil (x_then (hK38 _ _ ?_))
        clear hK38 K38
        refine wc_condF rfl ?_
        refine c_skip (x_then (hK37 _ _ ?_))
        clear hK37 K37
        refine c_reg ?_ -- region 21 formm.go:114
        refine wl (ro_move rfl) ?_
        refine wl (ro_arith (r := ((numF (t2.take k) * 10 : Nat) : Int)) rfl rfl rfl (Go.IntWalk.i64_in _ (by omega))) ?_
        refine wl (ro_move rfl) ?_
        refine wl (ro_move rfl) ?_
        refine wl (ro_indexS rfl rfl st_9 rfl (hx)) ?_
        refine wl (ro_arith (r := ((dv x : Nat) : Int)) rfl rfl (congrArg some (by show (x.toNat : Int) - 48 = ((x.toNat - 48 : Nat) : Int); omega)) (Go.IntWalk.u8_in _ (by unfold dv; omega))) ?_
        refine wl (ro_conv rfl sc_5 in_3 (Go.IntWalk.i64_in _ (by unfold dv; omega))) ?_
        refine wl (ro_arith (r := ((numF (t2.take (k + 1)) : Nat) : Int)) rfl rfl (congrArg some (by rw [hsn, numF_snoc]; rfl)) (Go.IntWalk.i64_in _ (by rw [hsn, numF_snoc]; unfold dv; omega))) ?_
        refine wl (ro_assign rfl) ?_
        refine wl_nil (x_blk (x_then (hK36 _ _ ?_)))
        clear hK36 K36
        refine c_reg ?_ -- region 18 formm.go:110
        refine wl (ro_move rfl) ?_
        refine wl (ro_arith (r := ((i2 + (k + 1) : Nat) : Int)) rfl rfl rfl (Go.IntWalk.i64_in _ (by omega))) ?_
        refine wl (ro_assign rfl) ?_
        refine wl_nil (x_then ?_)
        refine ⟨t2.length - (k + 1), by omega, k + 1, rfl, by omega, ?_, hR, hC, hF, kp _ ⟨rfl, rfl, rfl, rfl, rfl, trivial⟩⟩
        intro y hy
        rw [hsn, List.mem_append] at hy
        rcases hy with hy | hy
        · exact hall y hy
        · simp at hy; subst hy; exact dg_iff.2 (by omega)

end Go.Proofs.Qxb6500570aGreat
