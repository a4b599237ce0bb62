import Derived.Test.Qxb6500569aGreatVd
/- The real program: buckets of ids, spelt. -/
namespace Go.Proofs.Qxb6500569aGreat
set_option linter.unusedVariables false
set_option linter.unusedSimpArgs false

/-- A bucket of ids. -/
def Bk (H : Array Obj) (v : Value) (ids : List Nat) : Prop := Own H v 110 1 ids.length (ids.map i8c)

def spS (ids : List Nat) : List UInt8 := ids.map (fun j => UInt8.ofNat (48 + j))

theorem spell110 {w : World} {v : Value} {ids : List Nat} (h : Bk w.heap v ids) (hl : ids.length ≤ 100) (hi : ∀ j ∈ ids, j ≤ 100) :
    Ret Tryz.prog 110 [v] w (fun r w' => r = S (spS ids) ∧ Fram none' w w') := by
  have hO : Own w.heap v 110 1 ids.length (ids.map i8c) := h
  obtain ⟨av, cv, rfl⟩ := hO.form
  refine ret_of Tryz.func110 rfl Tryz.ntmps110 rfl ?_
  refine c_seq (fun K1 hK1 => ?_)
  refine c_reg ?_ -- region 0 prog.go:145
  refine wl (ro_assign rfl) ?_
  refine wl_nil (x_then (hK1 _ _ ?_))
  clear hK1 K1
  refine forget [(0, _)] ⟨rfl, trivial⟩ (fun e => ?_)
  refine c_seq (fun K2 hK2 => ?_)
  refine c_reg ?_ -- region 1 prog.go:146
  refine wl (ro_move rfl) ?_
  refine wl (ro_lenL rfl se_159) ?_
  refine wle (eo_make rfl rfl se_66 ze_5 (by omega) (by omega) rfl bb_5) ?_
  have hN : Blk (w.alloc (.cells (madeCells [Value.int .u8 0].toArray (ids.length * 1)) 5)).heap w.heap.size (List.replicate ids.length (u8c 0)) 5 := by
    rw [made_zero, Nat.mul_one]; exact Blk.new _ _ _
  have F1 : Fram none' w (w.alloc (.cells (madeCells [Value.int .u8 0].toArray (ids.length * 1)) 5)) := Fram.alloc none' w _
  refine gen2 (A := fun w1 => Blk w1.heap w.heap.size (List.replicate ids.length (u8c 0)) 5) (B := fun w1 => Fram none' w w1) (C := fun w1 => WL _ _ _ _ _ w1) hN F1 ?_
  clear hN F1
  intro w1 hN F1
  refine wl (ro_assign rfl) ?_
  refine wl_nil (x_then (hK2 _ _ ?_))
  clear hK2 K2
  refine c_seq (fun K3 hK3 => ?_)
  refine c_seq (fun K4 hK4 => ?_)
  refine c_reg ?_ -- region 2 prog.go:147
  refine wl (ro_move rfl) ?_
  refine wl (ro_lenL rfl se_159) ?_
  refine wl (ro_move rfl) ?_
  refine wl_nil (x_then (hK4 _ _ ?_))
  clear hK4 K4
  refine c_block ?_
  -- loop@r3: live slots [3, 9, 10, 11]
  refine c_loopG (fun m a' w' => ∃ j, m = ids.length - j ∧ j ≤ ids.length ∧ Blk w'.heap w.heap.size ((spS (ids.take j)).map u8c ++ List.replicate (ids.length - j) (u8c 0)) 5 ∧ Fram none' w w' ∧ ∃ e, a' = Fr 25 (upds e [(3, .slice (some ⟨w.heap.size, 0, none⟩) ids.length ids.length), (9, .slice av ids.length cv), (10, i64c ids.length), (11, i64c j)]) []) ids.length ⟨0, rfl, by omega, by simpa [spS] using hN, F1, kp _ ⟨rfl, rfl, rfl, rfl, trivial⟩⟩ ?_
  clear hN F1
  rintro m a' w2 ⟨j, rfl, hj, hN2, F2, e, rfl⟩
  refine c_seq (fun K5 hK5 => ?_)
  refine c_reg ?_ -- region 3 prog.go:147
  refine wl (ro_cmp rfl rfl rfl) ?_
  refine wl_nil (x_then (hK5 _ _ ?_))
  clear hK5 K5
  refine forget [(3, _), (9, _), (10, _), (11, _), (12, _)] ⟨rfl, rfl, rfl, rfl, rfl, trivial⟩ (fun e => ?_)
  refine c_seq (fun K6 hK6 => ?_)
  refine wc_cond rfl (fun hc12 => ?_) (fun hc12 => ?_)
  · try simp only [decide_eq_true_eq, decide_eq_false_iff_not, Bool.not_eq_true', Bool.not_eq_false', Bool.not_eq_eq_eq_not, Bool.not_true, Bool.not_false, beq_iff_eq, bne_iff_ne, ne_eq, beq_eq_false_iff_ne, bne_eq_false_iff_eq, gt_iff_lt, ge_iff_le, Int.not_lt, Int.not_le] at hc12
    have hjl : j < ids.length := by omega
    obtain ⟨k, hk⟩ : ∃ k, ids[j]? = some k := ⟨_, List.getElem?_eq_getElem hjl⟩
    have hk100 := hi k (List.mem_of_getElem? hk)
    have hO2 := hO.fram F2 (fun _ _ h => h)
    obtain ⟨g, cap, l, hV, hBl, hc1, hc2, hl1, hl2⟩ := hO2.pos (by omega)
    cases hV
    have hcell := own_cell (i := j) hl2 (v := i8c k) (by simp [hk])
    have hu8 : Value.int .u8 (48 + (k : Int)) = u8c (UInt8.ofNat (48 + k)) := by rw [← u8v (by omega)]; congr 1
    have hset : ((spS (ids.take j)).map u8c ++ List.replicate (ids.length - j) (u8c 0)).set j (u8c (UInt8.ofNat (48 + k))) = (spS (ids.take (j + 1))).map u8c ++ List.replicate (ids.length - (j + 1)) (u8c 0) := by
      have hlen : ((spS (ids.take j)).map u8c).length = j := by simp [spS]; omega
      rw [List.set_append_right _ _ (by omega), hlen, Nat.sub_self, show ids.length - j = (ids.length - (j + 1)) + 1 by omega, List.replicate_succ, List.set_cons_zero, List.take_add_one, hk]
      simp [spS]
    refine c_skip (x_then (hK6 _ _ ?_))
    clear hK6 K6
    refine forget [(3, _), (9, _), (10, _), (11, _)] ⟨rfl, rfl, rfl, rfl, trivial⟩ (fun e => ?_)
    refine c_seq (fun K7 hK7 => ?_)
    refine c_block ?_
    refine c_seq (fun K8 hK8 => ?_)
    refine c_reg ?_ -- region 4 prog.go:147
    refine wl (ro_move rfl) ?_
    refine wl (ro_indexAddr (et := 110) (k := 1) rfl rfl se_159 rfl (hjl)) ?_
    refine wl (ro_loadB rfl sc_110 (hBl) ((by rw [Nat.zero_add, Nat.mul_one]; exact hcell))) ?_
    refine wl (ro_assign rfl) ?_
    refine wl (ro_assign rfl) ?_
    refine wl_nil (x_then (hK8 _ _ ?_))
    clear hK8 K8
    refine c_reg ?_ -- region 5 prog.go:148
    refine wl (ro_move rfl) ?_
    refine wl (ro_move rfl) ?_
    refine wl (ro_move rfl) ?_
    refine wl (ro_conv rfl sc_110 in_5 (Go.IntWalk.u8_in _ (by omega))) ?_
    refine wl ((show RO _ _ _ _ _ (u8c (UInt8.ofNat (48 + k))) from hu8 ▸ ro_arith rfl rfl rfl (Go.IntWalk.u8_in _ (by omega)))) ?_
    refine wl (ro_indexAddr (et := 5) (k := 1) rfl rfl se_66 rfl (hjl)) ?_
    refine wls (so_storeB rfl rfl rfl sz_5 (hN2) ((by simp [spS]; omega))) ?_
    have hN3 := hN2.set ((spS (ids.take (j + 1))).map u8c ++ List.replicate (ids.length - (j + 1)) (u8c 0))
    rw [← hset] at hN3
    have F3 : Fram none' w (w2.setRow w.heap.size (((spS (ids.take j)).map u8c ++ List.replicate (ids.length - j) (u8c 0)).set j (u8c (UInt8.ofNat (48 + k)))).toArray) := F2.trans' (Fram.set (F := fun b => b = w.heap.size) w2 w.heap.size _ (.inl rfl)) (fun q hq hx => absurd hx (by omega))
    refine gen2 (A := fun w1 => Blk w1.heap w.heap.size (((spS (ids.take j)).map u8c ++ List.replicate (ids.length - j) (u8c 0)).set j (u8c (UInt8.ofNat (48 + k)))) 5) (B := fun w1 => Fram none' w w1) (C := fun w1 => WL _ _ _ _ _ w1) (by rw [Nat.zero_add, Nat.mul_one]; exact hN3) (by rw [Nat.zero_add, Nat.mul_one]; exact F3) ?_
    clear hN3 F3 hN2 F2
    intro w3 hN3 F3
    rw [hset] at hN3
    refine wl_nil (x_blk (x_then (hK7 _ _ ?_)))
    clear hK7 K7
    refine c_reg ?_ -- region 6 prog.go:147
    refine wl (ro_arith rfl rfl rfl (Go.IntWalk.i64_in _ (by omega))) ?_
    refine wl (ro_move rfl) ?_
    refine wl_nil (x_then ?_)
    exact ⟨ids.length - (j + 1), by omega, j + 1, rfl, by omega, hN3, F3, kp _ ⟨rfl, rfl, rfl, rfl, trivial⟩⟩
  · try simp only [decide_eq_true_eq, decide_eq_false_iff_not, Bool.not_eq_true', Bool.not_eq_false', Bool.not_eq_eq_eq_not, Bool.not_true, Bool.not_false, beq_iff_eq, bne_iff_ne, ne_eq, beq_eq_false_iff_ne, bne_eq_false_iff_eq, gt_iff_lt, ge_iff_le, Int.not_lt, Int.not_le] at hc12
    obtain rfl : j = ids.length := by omega
    rw [List.take_length, Nat.sub_self, List.replicate_zero, List.append_nil] at hN2
    refine c_exit (x_thenX (x_thenX (x_blkX (x_then (hK3 _ _ ?_)))))
    clear hK6 K6 hK3 K3
    refine forget [(3, _)] ⟨rfl, trivial⟩ (fun e => ?_)
    refine c_seq (fun K9 hK9 => ?_)
    refine c_reg ?_ -- region 7 prog.go:150
    refine wl (ro_move rfl) ?_
    refine wl (ro_b2s (bs := spS ids) rfl se_66 in_5 st_9 hN2 (by rw [List.drop_zero, List.take_of_length_le (by simp [spS])]) (by simp [spS])) ?_
    refine wl (ro_assign rfl) ?_
    refine wl_nil (x_then (hK9 _ _ ?_))
    clear hK9 K9
    refine c_ret ?_
    refine bp_ret Tryz.results110 rfl ?_
    exact ⟨rfl, F2⟩

end Go.Proofs.Qxb6500569aGreat
