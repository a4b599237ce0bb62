import Derived.Test.Qxb6500570aGreatDi
/- The real evaluator made. -/
namespace Go.Proofs.Qxb6500570aGreat
set_option linter.unusedVariables false
set_option linter.unusedSimpArgs false

theorem zc_rws {α : Type} {enc : α → List Value} {k : Nat} {x0 : α} {z : List Value} (hz : enc x0 = z) (hk : ∀ x, (enc x).length = k) (n : Nat) : cel (n * k) (zc z) = rws enc (List.replicate n x0) := by
  have hzl : z.length = k := by rw [← hz]; exact hk x0
  apply List.ext_getElem?
  intro i
  by_cases hi : i < n * k
  · have hk0 : 0 < k := by
      rcases Nat.eq_zero_or_pos k with h | h
      · rw [h] at hi; simp at hi
      · exact h
    have h1 : i / k < n := Nat.div_lt_of_lt_mul (by rw [Nat.mul_comm]; exact hi)
    have h2 : i % k < k := Nat.mod_lt _ hk0
    have h3 : i = i / k * k + i % k := by rw [Nat.mul_comm]; exact (Nat.div_add_mod i k).symm
    have h4 : (List.replicate n x0)[i / k]? = some x0 := by rw [List.getElem?_replicate, if_pos h1]
    have h5 : (enc x0)[i % k]? = some ((enc x0)[i % k]'(by rw [hk]; exact h2)) := List.getElem?_eq_getElem _
    rw [rw_get hk h4 h3 h5, cel_get hi]
    unfold zc
    rw [hzl, List.getD_eq_getElem?_getD, ← hz, h5]
    rfl
  · rw [List.getElem?_eq_none (by rw [cel_len]; omega), List.getElem?_eq_none (by rw [rws_len hk, List.length_replicate]; omega)]

theorem New24 {w : World} {f : Nat} :
    Ret Tryz.prog 24 [ptr f] w (fun v w' => ∃ B : EB, v = ptr B.e ∧ B.f = f ∧ EBo B ∧ w.heap.size ≤ B.e ∧ B.t < w'.heap.size ∧ (∀ X, FmR w' X → EvX w' B X 48 0 (List.replicate 48 ⟨0, 0, vZ, 0⟩)) ∧ Fram none' w w') := by
  have hF : Fram none' w w := Fram.refl _ _
  refine ret_of Tryz.func24 rfl Tryz.ntmps24 rfl ?_
  refine c_seq (fun K1 hK1 => ?_)
  refine c_reg ?_ -- region 0 val.go:25
  refine wl (ro_assign rfl) ?_
  refine wl_nil (x_then (hK1 _ _ ?_))
  clear hK1 K1
  refine forget [(0, _)] ⟨rfl, trivial⟩ (fun e => ?_)
  refine c_seq (fun K2 hK2 => ?_)
  refine c_reg ?_ -- region 1 val.go:26
  refine wl (ro_move rfl) ?_
  refine wl (ro_build rfl bld_89_0) ?_
  refine wl_box rfl rfl (fun eb w1 hbeb hB F1 => ?_)
  have hbseb := Nat.le_trans hF.size hbeb
  replace hF := hF.thenDrew.thenN F1
  refine wl (ro_assign rfl) ?_
  refine wl_nil (x_then (hK2 _ _ ?_))
  clear hK2 K2
  refine forget [(3, _)] ⟨rfl, trivial⟩ (fun e => ?_)
  refine c_seq (fun K3 hK3 => ?_)
  refine c_reg ?_ -- region 2 val.go:27
  refine wl (ro_move rfl) ?_
  refine wl_make (len := 48) (cap := 48) rfl rfl se_84 ze_213 (by simp) (by omega) (by omega) rfl bb_213 (fun cb w2 hbcb hC F2 => ?_)
  have hbscb := Nat.le_trans hF.size hbcb
  have hneebcb : eb < cb := Nat.lt_of_lt_of_le hB.lt hbcb
  replace hF := hF.thenDrew.thenN F2
  replace hB := F2.blkN hB
  refine wl (ro_nilCheck rfl) ?_
  refine wl (ro_fieldAddr (k := 1) rfl fo_89_1) ?_
  refine wl_put rfl rfl rfl sz_84 hB ((by simp)) ((show _ = [ptr f, sl cb 48, i64c 0, u32c 0, .slice none 0 0, .slice none 0 0, i64c 0, .slice none 0 0, i64c 0] from rfl)) (fun w3 hB F3 => ?_)
  replace hF := hF.thenDrew.thenO F3 (by first | exact .inr (by omega) | exact .inl rfl | exact .inl (by assumption))
  replace hC := F3.blkO hC (by omega)
  refine wl_nil (x_then (hK3 _ _ ?_))
  clear hK3 K3
  refine forget [(3, _)] ⟨rfl, trivial⟩ (fun e => ?_)
  refine c_seq (fun K4 hK4 => ?_)
  refine c_reg ?_ -- region 3 val.go:28
  refine wl (ro_move rfl) ?_
  refine wl (ro_move rfl) ?_
  refine wl (ro_nilCheck rfl) ?_
  refine wl (ro_fieldAddr (k := 1) rfl fo_89_1) ?_
  refine wl (ro_loadB rfl sc_84 (by assumption) rfl) ?_
  refine wl (ro_lenL rfl se_84) ?_
  refine wl (ro_nilCheck rfl) ?_
  refine wl (ro_fieldAddr (k := 2) rfl fo_89_2) ?_
  refine wl_put rfl rfl rfl sz_3 hB ((by simp)) ((show _ = [ptr f, sl cb 48, i64c 48, u32c 0, .slice none 0 0, .slice none 0 0, i64c 0, .slice none 0 0, i64c 0] from rfl)) (fun w4 hB F4 => ?_)
  replace hF := hF.thenDrew.thenO F4 (by first | exact .inr (by omega) | exact .inl rfl | exact .inl (by assumption))
  replace hC := F4.blkO hC (by omega)
  refine wl_nil (x_then (hK4 _ _ ?_))
  clear hK4 K4
  refine forget [(3, _)] ⟨rfl, trivial⟩ (fun e => ?_)
  refine c_seq (fun K5 hK5 => ?_)
  refine c_reg ?_ -- region 4 val.go:29
  refine wl (ro_move rfl) ?_
  refine wl_make (len := 24) (cap := 24) rfl rfl se_79 ze_3 (by simp) (by omega) (by omega) rfl bb_3 (fun ob w5 hbob hO F5 => ?_)
  have hbsob := Nat.le_trans hF.size hbob
  have hneebob : eb < ob := Nat.lt_of_lt_of_le hB.lt hbob
  have hnecbob : cb < ob := Nat.lt_of_lt_of_le hC.lt hbob
  replace hF := hF.thenDrew.thenN F5
  replace hB := F5.blkN hB
  replace hC := F5.blkN hC
  refine wl (ro_nilCheck rfl) ?_
  refine wl (ro_fieldAddr (k := 4) rfl fo_89_4) ?_
  refine wl_put rfl rfl rfl sz_79 hB ((by simp)) ((show _ = [ptr f, sl cb 48, i64c 48, u32c 0, sl ob 24, .slice none 0 0, i64c 0, .slice none 0 0, i64c 0] from rfl)) (fun w6 hB F6 => ?_)
  replace hF := hF.thenDrew.thenO F6 (by first | exact .inr (by omega) | exact .inl rfl | exact .inl (by assumption))
  replace hC := F6.blkO hC (by omega)
  replace hO := F6.blkO hO (by omega)
  refine wl_nil (x_then (hK5 _ _ ?_))
  clear hK5 K5
  refine forget [(3, _)] ⟨rfl, trivial⟩ (fun e => ?_)
  refine c_seq (fun K6 hK6 => ?_)
  refine c_reg ?_ -- region 5 val.go:30
  refine wl (ro_move rfl) ?_
  refine wl_make (len := 24) (cap := 24) rfl rfl se_86 ze_104 (by simp) (by omega) (by omega) rfl bb_104 (fun kb w7 hbkb hK F7 => ?_)
  have hbskb := Nat.le_trans hF.size hbkb
  have hneebkb : eb < kb := Nat.lt_of_lt_of_le hB.lt hbkb
  have hnecbkb : cb < kb := Nat.lt_of_lt_of_le hC.lt hbkb
  have hneobkb : ob < kb := Nat.lt_of_lt_of_le hO.lt hbkb
  replace hF := hF.thenDrew.thenN F7
  replace hB := F7.blkN hB
  replace hC := F7.blkN hC
  replace hO := F7.blkN hO
  refine wl (ro_nilCheck rfl) ?_
  refine wl (ro_fieldAddr (k := 5) rfl fo_89_5) ?_
  refine wl_put rfl rfl rfl sz_86 hB ((by simp)) ((show _ = [ptr f, sl cb 48, i64c 48, u32c 0, sl ob 24, sl kb 24, i64c 0, .slice none 0 0, i64c 0] from rfl)) (fun w8 hB F8 => ?_)
  replace hF := hF.thenDrew.thenO F8 (by first | exact .inr (by omega) | exact .inl rfl | exact .inl (by assumption))
  replace hC := F8.blkO hC (by omega)
  replace hO := F8.blkO hO (by omega)
  replace hK := F8.blkO hK (by omega)
  refine wl_nil (x_then (hK6 _ _ ?_))
  clear hK6 K6
  refine forget [(3, _)] ⟨rfl, trivial⟩ (fun e => ?_)
  refine c_seq (fun K7 hK7 => ?_)
  refine c_reg ?_ -- region 6 val.go:31
  refine wl (ro_move rfl) ?_
  refine wl_make (len := 24) (cap := 24) rfl rfl se_87 ze_228 (by simp) (by omega) (by omega) rfl bb_228 (fun tb w9 hbtb hT F9 => ?_)
  have hbstb := Nat.le_trans hF.size hbtb
  have hneebtb : eb < tb := Nat.lt_of_lt_of_le hB.lt hbtb
  have hnecbtb : cb < tb := Nat.lt_of_lt_of_le hC.lt hbtb
  have hneobtb : ob < tb := Nat.lt_of_lt_of_le hO.lt hbtb
  have hnekbtb : kb < tb := Nat.lt_of_lt_of_le hK.lt hbtb
  replace hF := hF.thenDrew.thenN F9
  replace hB := F9.blkN hB
  replace hC := F9.blkN hC
  replace hO := F9.blkN hO
  replace hK := F9.blkN hK
  refine wl (ro_nilCheck rfl) ?_
  refine wl (ro_fieldAddr (k := 7) rfl fo_89_7) ?_
  refine wl_put rfl rfl rfl sz_87 hB ((by simp)) ((show _ = [ptr f, sl cb 48, i64c 48, u32c 0, sl ob 24, sl kb 24, i64c 0, sl tb 24, i64c 0] from rfl)) (fun w10 hB F10 => ?_)
  replace hF := hF.thenDrew.thenO F10 (by first | exact .inr (by omega) | exact .inl rfl | exact .inl (by assumption))
  replace hC := F10.blkO hC (by omega)
  replace hO := F10.blkO hO (by omega)
  replace hK := F10.blkO hK (by omega)
  replace hT := F10.blkO hT (by omega)
  refine wl_nil (x_then (hK7 _ _ ?_))
  clear hK7 K7
  refine forget [(3, _)] ⟨rfl, trivial⟩ (fun e => ?_)
  refine c_seq (fun K8 hK8 => ?_)
  refine c_reg ?_ -- region 7 val.go:32
  refine wl (ro_move rfl) ?_
  refine wl (ro_assign rfl) ?_
  refine wl_nil (x_then (hK8 _ _ ?_))
  clear hK8 K8
  refine c_ret ?_
  refine bp_ret Tryz.results24 rfl ?_
  refine ⟨⟨f, eb, cb, ob, kb, tb⟩, rfl, rfl, ⟨by omega, by omega, by omega, by omega⟩, by omega, hT.lt, fun X hfm => ⟨hfm, hB, ?_, List.length_replicate, ⟨List.replicate 24 0, ?_, List.length_replicate, ?_⟩, ⟨List.replicate 24 vZ, ?_, List.length_replicate⟩, ⟨List.replicate 24 tyZ, ?_, List.length_replicate⟩⟩, hF⟩
  · rw [← zc_rws (enc := inc) (x0 := ⟨0, 0, vZ, 0⟩) rfl inc_len 48]; exact hC
  · rw [← zc_rws (enc := onc) (x0 := 0) rfl onc_len 24]; exact hO
  · intro j
    unfold ownL
    rw [List.getD_eq_getElem?_getD, List.getElem?_replicate]
    split <;> simp
  · rw [← zc_rws (enc := vlc) (x0 := vZ) rfl vlc_len 24]; exact hK
  · rw [← zc_rws (enc := tyc) (x0 := tyZ) rfl tyc_len 24]; exact hT

end Go.Proofs.Qxb6500570aGreat
