import Derived.Test.Qxb6500569aGreatUe
import Derived.Test.Qxb6500569aGreatFf
import Derived.Test.Qxb6500569aGreatSf
/- The real reader: goals, the visitor, walk, vet. -/
namespace Go.Proofs.Qxb6500569aGreat
set_option linter.unusedVariables false
set_option linter.unusedSimpArgs false

theorem en_121 : Enters Tryz.prog 121 := enters_of Tryz.func121 (by kernel_rfl) (by kernel_rfl)
theorem ni_214 : notIf Tryz.prog 214 = true := by kernel_rfl
theorem ni_155 : notIf Tryz.prog 155 = true := by kernel_rfl
theorem ni_220 : notIf Tryz.prog 220 = true := by kernel_rfl
theorem zr_214 : (Tryz.prog.info? 214).bind (·.zero) = some (.agg #[.int .u8 0, .int .i64 0]) := by kernel_rfl
theorem zr_155 : (Tryz.prog.info? 155).bind (·.zero) = some (.pointer none) := by kernel_rfl
theorem zr_220 : (Tryz.prog.info? 220).bind (·.zero) = some (.agg #[]) := by kernel_rfl

/-- The visitor at a node that is no variable. -/
theorem visit121n {w : World} {nb n : Nat} (hn : Blk w.heap nb [i64c n] 3) {t : TypeId} {v : Value} (ht : Nat.beq t 214 = false) :
    Ret Tryz.prog 121 [.iface t v, ptr nb] w (fun r w' => r = .bool (decide (n ≤ 6)) ∧ Blk w'.heap nb [i64c n] 3 ∧ Fram (fun b => b = nb) w w') := by
  refine ret_of Tryz.func121 rfl Tryz.ntmps121 rfl ?_
  refine c_seq (fun K1 hK1 => ?_)
  refine c_reg ?_ -- region 0 reader.go:54
  refine wl (ro_assign rfl) ?_
  refine wl_nil (x_then (hK1 _ _ ?_))
  clear hK1 K1
  refine c_seq (fun K2 hK2 => ?_)
  refine c_seq (fun K3 hK3 => ?_)
  refine c_reg ?_ -- region 1 reader.go:55
  refine wl (ro_move rfl) ?_
  refine wl (ro_taN rfl ni_214 ht zr_214) ?_
  refine wl (ro_move rfl) ?_
  refine wl (ro_extract rfl rfl) ?_
  refine wl (ro_extract rfl rfl) ?_
  refine wle (eo_alloc ze_214) ?_
  have hN := Blk.new w [u8c 0, i64c 0] 214
  have hn1 := hn.alloc (.cells [u8c 0, i64c 0].toArray 214)
  refine wls (so_storeAggB rfl rfl (by simp [Value.oneCell', i32c, u8c, i64c, i8c]) sz_214 rfl (hN) (by simp)) ?_
  have hn2 : Blk (World.setRow (w.alloc (.cells [u8c 0, i64c 0].toArray 214)) w.heap.size [u8c 0, i64c 0].toArray).heap nb [i64c n] 3 := hn1.fram (Fram.set (F := fun b => b = w.heap.size) _ w.heap.size _ (.inl rfl)) (by have := hn.lt; omega)
  have F2 : Fram none' w (World.setRow (w.alloc (.cells [u8c 0, i64c 0].toArray 214)) w.heap.size [u8c 0, i64c 0].toArray) := (Fram.alloc none' w _).trans' (Fram.set (F := fun b => b = w.heap.size) _ w.heap.size _ (.inl rfl)) (fun k hk hx => absurd hx (by omega))
  refine gen2 (A := fun w2 => Blk w2.heap nb [i64c n] 3) (B := fun w2 => Fram none' w w2) (C := fun w2 => WL _ _ _ _ _ w2) hn2 F2 ?_
  clear hn2 F2 hn1 hN
  intro w2 hn2 F2
  refine wl (ro_assign rfl) ?_
  refine wl_nil (x_then (hK3 _ _ ?_))
  clear hK3 K3
  refine forget [(1, _), (4, _), (5, _)] ⟨rfl, rfl, rfl, trivial⟩ (fun e => ?_)
  refine c_seq (fun K4 hK4 => ?_)
  refine c_reg ?_ -- region 2 reader.go:55
  refine wl (ro_move rfl) ?_
  refine wl (ro_move rfl) ?_
  refine wlg_no rfl ?_
  refine wlg_no rfl ?_
  refine wlg_no rfl ?_
  refine wlg_no rfl ?_
  refine wl (ro_pick rfl rfl rfl) ?_
  refine wl_nil (x_then (hK4 _ _ ?_))
  clear hK4 K4
  refine wc_condF rfl ?_
  refine c_skip (x_then (hK2 _ _ ?_))
  clear hK2 K2
  refine forget [(1, _)] ⟨rfl, trivial⟩ (fun e => ?_)
  refine c_seq (fun K5 hK5 => ?_)
  refine c_reg ?_ -- region 4 reader.go:58
  refine wl (ro_loadB rfl sc_3 (hn2) rfl) ?_
  refine wl (ro_cmp (r := decide (n ≤ 6)) rfl rfl (congrArg some (by simp; omega))) ?_
  refine wl (ro_assign rfl) ?_
  refine wl_nil (x_then (hK5 _ _ ?_))
  clear hK5 K5
  refine c_ret ?_
  refine bp_ret Tryz.results121 rfl ?_
  exact ⟨rfl, hn2, F2.mono (fun _ _ h => h.elim)⟩

theorem visit121v {w : World} {nb n k : Nat} (hn : Blk w.heap nb [i64c n] 3) (c : UInt8) (hk : k ≤ 100) :
    Ret Tryz.prog 121 [.iface 214 (.agg #[u8c c, i64c k]), ptr nb] w (fun r w' => r = .bool (decide (max n (k + 1) ≤ 6)) ∧ Blk w'.heap nb [i64c (max n (k + 1))] 3 ∧ Fram (fun b => b = nb) w w') := by
  have hnl := hn.lt
  refine ret_of Tryz.func121 rfl Tryz.ntmps121 rfl ?_
  refine c_seq (fun K1 hK1 => ?_)
  refine c_reg ?_ -- region 0 reader.go:54
  refine wl (ro_assign rfl) ?_
  refine wl_nil (x_then (hK1 _ _ ?_))
  clear hK1 K1
  refine c_seq (fun K2 hK2 => ?_)
  refine c_seq (fun K3 hK3 => ?_)
  refine c_reg ?_ -- region 1 reader.go:55
  refine wl (ro_move rfl) ?_
  refine wl (ro_taY rfl ni_214) ?_
  refine wl (ro_move rfl) ?_
  refine wl (ro_extract rfl rfl) ?_
  refine wl (ro_extract rfl rfl) ?_
  refine wle (eo_alloc ze_214) ?_
  have hN := Blk.new w [u8c 0, i64c 0] 214
  have hn1 := hn.alloc (.cells [u8c 0, i64c 0].toArray 214)
  refine wls (so_storeAggB rfl rfl (by simp [Value.oneCell', i32c, u8c, i64c, i8c]) sz_214 rfl (hN) (by simp)) ?_
  have hn2 : Blk (World.setRow (w.alloc (.cells [u8c 0, i64c 0].toArray 214)) w.heap.size [u8c c, i64c k].toArray).heap nb [i64c n] 3 := hn1.fram (Fram.set (F := fun b => b = w.heap.size) _ w.heap.size _ (.inl rfl)) (by omega)
  have F2 : Fram none' w (World.setRow (w.alloc (.cells [u8c 0, i64c 0].toArray 214)) w.heap.size [u8c c, i64c k].toArray) := (Fram.alloc none' w _).trans' (Fram.set (F := fun b => b = w.heap.size) _ w.heap.size _ (.inl rfl)) (fun k hk hx => absurd hx (by omega))
  have hV := hN.set [u8c c, i64c k]
  refine gen3 (A := fun w2 => Blk w2.heap nb [i64c n] 3) (B := fun w2 => Fram none' w w2) (D := fun w2 => Blk w2.heap w.heap.size [u8c c, i64c k] 214) (C := fun w2 => WL _ _ _ _ _ w2) hn2 F2 hV ?_
  clear hn2 F2 hn1 hN hV
  intro w2 hn2 F2 hV
  refine wl (ro_assign rfl) ?_
  refine wl_nil (x_then (hK3 _ _ ?_))
  clear hK3 K3
  refine forget [(1, _), (4, _), (5, _)] ⟨rfl, rfl, rfl, trivial⟩ (fun e => ?_)
  refine c_seq (fun K4 hK4 => ?_)
  refine c_reg ?_ -- region 2 reader.go:55
  refine wl (ro_move rfl) ?_
  refine wl (ro_move rfl) ?_
  refine wlg_yes rfl (ro_fieldAddr (k := 1) rfl fo_214_1) ?_
  refine wlg_yes rfl (ro_loadB rfl sc_3 (hV) rfl) ?_
  refine wlg_yes rfl (ro_loadB rfl sc_3 (hn2) rfl) ?_
  refine wlg_yes rfl (ro_cmp (r := decide (n ≤ k)) rfl rfl (congrArg some (by simp))) ?_
  refine wl (ro_pick rfl rfl rfl) ?_
  refine wl_nil (x_then (hK4 _ _ ?_))
  clear hK4 K4
  refine wc_cond rfl (fun hc17 => ?_) (fun hc17 => ?_)
  · try simp only [decide_eq_true_eq, decide_eq_false_iff_not, Bool.not_eq_true', Bool.not_eq_false', Bool.not_eq_eq_eq_not, Bool.not_true, Bool.not_false, beq_iff_eq, bne_iff_ne, ne_eq, beq_eq_false_iff_ne, bne_eq_false_iff_eq, gt_iff_lt, ge_iff_le, Int.not_lt, Int.not_le] at hc17
    have hle : n ≤ k := by simpa using hc17
    have hmx : max n (k + 1) = k + 1 := by omega
    refine c_reg ?_ -- region 3 reader.go:56
    refine wl (ro_fieldAddr (k := 1) rfl fo_214_1) ?_
    refine wl (ro_loadB rfl sc_3 (hV) rfl) ?_
    refine wl (ro_arith rfl rfl rfl (Go.IntWalk.i64_in _ (by omega))) ?_
    refine wls (so_storeB rfl rfl rfl sz_3 (hn2) (by simp)) ?_
    refine gset (C := fun w' => WL _ _ _ _ _ w') (l' := [i64c (k + 1)]) hn2 (Fram.refl _ w2) ?_
    intro w3 hn3 F3
    refine wl_nil (x_then (hK2 _ _ ?_))
    clear hK2 K2
    refine forget [(1, _)] ⟨rfl, trivial⟩ (fun e => ?_)
    refine c_seq (fun K5 hK5 => ?_)
    refine c_reg ?_ -- region 4 reader.go:58
    refine wl (ro_loadB rfl sc_3 (hn3) rfl) ?_
    refine wl (ro_cmp (r := decide (k + 1 ≤ 6)) rfl rfl (congrArg some (by simp; omega))) ?_
    refine wl (ro_assign rfl) ?_
    refine wl_nil (x_then (hK5 _ _ ?_))
    clear hK5 K5
    refine c_ret ?_
    refine bp_ret Tryz.results121 rfl ?_
    exact ⟨by rw [hmx], by rw [hmx]; exact hn3, (F2.mono (fun _ _ h => h.elim)).trans F3⟩
  · try simp only [decide_eq_true_eq, decide_eq_false_iff_not, Bool.not_eq_true', Bool.not_eq_false', Bool.not_eq_eq_eq_not, Bool.not_true, Bool.not_false, beq_iff_eq, bne_iff_ne, ne_eq, beq_eq_false_iff_ne, bne_eq_false_iff_eq, gt_iff_lt, ge_iff_le, Int.not_lt, Int.not_le] at hc17
    have hle : ¬ n ≤ k := by simpa using hc17
    have hmx : max n (k + 1) = n := by omega
    refine c_skip (x_then (hK2 _ _ ?_))
    clear hK2 K2
    refine forget [(1, _)] ⟨rfl, trivial⟩ (fun e => ?_)
    refine c_seq (fun K6 hK6 => ?_)
    refine c_reg ?_ -- region 4 reader.go:58
    refine wl (ro_loadB rfl sc_3 (hn2) rfl) ?_
    refine wl (ro_cmp (r := decide (n ≤ 6)) rfl rfl (congrArg some (by simp; omega))) ?_
    refine wl (ro_assign rfl) ?_
    refine wl_nil (x_then (hK6 _ _ ?_))
    clear hK6 K6
    refine c_ret ?_
    refine bp_ret Tryz.results121 rfl ?_
    exact ⟨by rw [hmx], by rw [hmx]; exact hn2, F2.mono (fun _ _ h => h.elim)⟩

def vfn (nb : Nat) : Value := .func (.func 121) #[] #[ptr nb]

def WPost (nb n m : Nat) (w : World) (r : Value) (w' : World) : Prop := r = .bool (decide (max n m ≤ 6)) ∧ (∃ n', Blk w'.heap nb [i64c n'] 3 ∧ (max n m ≤ 6 → n' = max n m)) ∧ Fram (fun b => b = nb) w w'

def WSpec (d nb : Nat) : Prop := ∀ (w : World) (n : Nat) (v : Value) (i : TI), TAt d w.heap v i → (∀ b ∈ i.B, b ≠ nb) → Blk w.heap nb [i64c n] 3 → n ≤ 6 → Ret Tryz.prog 122 [v, vfn nb] w (WPost nb n i.m w)

theorem maxM_take {ks : List TI} {j : Nat} {i : TI} (h : ks[j]? = some i) : maxM (ks.take (j + 1)) = max (maxM (ks.take j)) i.m := by
  have hl := (List.getElem?_eq_some_iff.1 h).1
  rw [List.take_add_one, h]
  exact maxM_snoc _ _

theorem maxM_le {ks : List TI} : ∀ {j : Nat}, maxM (ks.take j) ≤ maxM ks := by
  induction ks with
  | nil => intro j; simp
  | cons a l ih =>
    intro j
    cases j with
    | zero => simp [maxM]
    | succ j =>
      have := ih (j := j)
      simp only [maxM, List.take_succ_cons, List.foldr_cons] at this ⊢
      omega

theorem walk122c {d nb : Nat} (IH : WSpec d nb) {w : World} {n cb : Nat} {c : UInt8} {VA : Value} {ks : List (Value × TI)} {B : List Nat} (hC : CallB (TAt d w.heap) w.heap cb c VA ks B) (hB : ∀ b ∈ B, b ≠ nb) (hn : Blk w.heap nb [i64c n] 3) (hn6 : n ≤ 6) (hkl : ks.length ≤ 1000) :
    Ret Tryz.prog 122 [.iface 155 (ptr cb), vfn nb] w (WPost nb n (maxM (ks.map (·.2))) w) := by
  have hkB : ∀ k ∈ ks, ∀ b ∈ k.2.B, b ≠ nb := fun k hk b hb => hB b (by rw [hC.bs]; simp only [List.mem_cons, List.mem_append, List.mem_flatMap]; exact .inr (.inr ⟨k, hk, hb⟩))
  obtain ⟨aV, cV, rfl⟩ := hC.own.form
  refine ret_of Tryz.func122 rfl Tryz.ntmps122 rfl ?_
  refine c_seq (fun K1 hK1 => ?_)
  refine c_reg ?_ -- region 0 term.go:66
  refine wl (ro_assign rfl) ?_
  refine wl_nil (x_then (hK1 _ _ ?_))
  clear hK1 K1
  refine c_seq (fun K2 hK2 => ?_)
  refine c_seq (fun K3 hK3 => ?_)
  refine c_reg ?_ -- region 1 term.go:67
  refine wl (ro_move rfl) ?_
  refine wl (ro_move rfl) ?_
  refine wl_callv (cs := [ptr nb]) rfl rfl en_121 (visit121n hn rfl) ?_
  rintro _ w1 ⟨rfl, hn1, F1⟩
  rw [decide_eq_true hn6]
  have hC1 := hC.fram F1 (fun b hb he => hB b hb he) (fun k hk hb h => h.fram F1 hb)
  have hBc := hC1.blk
  refine wl (ro_not rfl) ?_
  refine wl_nil (x_then (hK3 _ _ ?_))
  clear hK3 K3
  refine wc_condF rfl ?_
  refine c_skip (x_then (hK2 _ _ ?_))
  clear hK2 K2
  refine c_seq (fun K4 hK4 => ?_)
  refine c_seq (fun K5 hK5 => ?_)
  refine c_reg ?_ -- region 3 term.go:70
  refine wl (ro_move rfl) ?_
  refine wl_nil (x_then (hK5 _ _ ?_))
  clear hK5 K5
  refine c_block ?_
  refine forget [(1, _), (13, _)] ⟨rfl, rfl, trivial⟩ (fun e => ?_)
  refine c_seq (fun K6 hK6 => ?_)
  refine c_reg ?_ -- region 4 term.go:70
  refine wl (ro_taY rfl ni_155) ?_
  refine wl (ro_extract rfl rfl) ?_
  refine wl (ro_extract rfl rfl) ?_
  refine wl_nil (x_then (hK6 _ _ ?_))
  clear hK6 K6
  refine wc_condT rfl ?_
  refine c_seq (fun K7 hK7 => ?_)
  refine c_reg ?_ -- region 5 term.go:70
  refine wl (ro_assign rfl) ?_
  refine wl_nil (x_then (hK7 _ _ ?_))
  clear hK7 K7
  refine forget [(1, _), (5, _)] ⟨rfl, rfl, trivial⟩ (fun e => ?_)
  refine c_seq (fun K8 hK8 => ?_)
  refine c_reg ?_ -- region 6 term.go:72
  refine wl (ro_move rfl) ?_
  refine wl (ro_nilCheck rfl) ?_
  refine wl (ro_fieldAddr (k := 1) rfl fo_193_1) ?_
  refine wl (ro_loadB rfl sc_190 (hBc) rfl) ?_
  refine wl (ro_lenL rfl se_190) ?_
  refine wl (ro_move rfl) ?_
  refine wl_nil (x_then (hK8 _ _ ?_))
  clear hK8 K8
  refine c_block ?_
  -- loop@r7: live slots [1, 20, 21, 22]
  refine c_loopG (fun m a' w' => ∃ j n', m = ks.length - j ∧ j ≤ ks.length ∧ n' = max n (maxM ((ks.map (·.2)).take j)) ∧ n' ≤ 6 ∧ Blk w'.heap nb [i64c n'] 3 ∧ Fram (fun b => b = nb) w w' ∧ ∃ e, a' = Fr 38 (upds e [(1, vfn nb), (20, .slice aV ks.length cV), (21, i64c ks.length), (22, i64c j)]) []) ks.length ⟨0, n, rfl, by omega, by simp [maxM], hn6, hn1, F1, kp _ ⟨rfl, rfl, rfl, rfl, trivial⟩⟩ ?_
  clear hn1 F1 hC1 hBc
  rintro m a' w2 ⟨j, n', rfl, hj, hn', hn6', hn2, F2, e, rfl⟩
  have hC2 := hC.fram F2 (fun b hb he => hB b hb he) (fun k hk hb h => h.fram F2 hb)
  refine c_seq (fun K9 hK9 => ?_)
  refine c_reg ?_ -- region 7 term.go:72
  refine wl (ro_cmp rfl rfl rfl) ?_
  refine wl_nil (x_then (hK9 _ _ ?_))
  clear hK9 K9
  refine forget [(1, _), (20, _), (21, _), (22, _), (23, _)] ⟨rfl, rfl, rfl, rfl, rfl, trivial⟩ (fun e => ?_)
  refine c_seq (fun K10 hK10 => ?_)
  refine wc_cond rfl (fun hc23 => ?_) (fun hc23 => ?_)
  · try simp only [decide_eq_true_eq, decide_eq_false_iff_not, Bool.not_eq_true', Bool.not_eq_false', Bool.not_eq_eq_eq_not, Bool.not_true, Bool.not_false, beq_iff_eq, bne_iff_ne, ne_eq, beq_eq_false_iff_ne, bne_eq_false_iff_eq, gt_iff_lt, ge_iff_le, Int.not_lt, Int.not_le] at hc23
    have hjl : j < ks.length := by omega
    obtain ⟨k, hk⟩ : ∃ k, ks[j]? = some k := ⟨_, List.getElem?_eq_getElem hjl⟩
    have hkm := List.mem_of_getElem? hk
    obtain ⟨g, cap, l, hV, hBl, hc1, hc2, hl1, hl2⟩ := hC2.own.pos (by omega)
    cases hV
    have hcell := own_cell (i := j) hl2 (v := k.1) (by simp [hk])
    have hmt := maxM_take (ks := ks.map (·.2)) (j := j) (i := k.2) (by simp [hk])
    have hml := maxM_le (ks := ks.map (·.2)) (j := j + 1)
    refine c_skip (x_then (hK10 _ _ ?_))
    clear hK10 K10
    refine forget [(1, _), (20, _), (21, _), (22, _)] ⟨rfl, rfl, rfl, rfl, trivial⟩ (fun e => ?_)
    refine c_seq (fun K11 hK11 => ?_)
    refine c_block ?_
    refine c_seq (fun K12 hK12 => ?_)
    refine c_reg ?_ -- region 8 term.go:72
    refine wl (ro_indexAddr (et := 195) (k := 1) rfl rfl se_190 rfl (hjl)) ?_
    refine wl (ro_loadB rfl sc_195 (hBl) ((by rw [Nat.zero_add, Nat.mul_one]; exact hcell))) ?_
    refine wl (ro_assign rfl) ?_
    refine wl_nil (x_then (hK12 _ _ ?_))
    clear hK12 K12
    refine forget [(1, _), (7, _), (20, _), (21, _), (22, _)] ⟨rfl, rfl, rfl, rfl, rfl, trivial⟩ (fun e => ?_)
    refine c_seq (fun K13 hK13 => ?_)
    refine c_reg ?_ -- region 9 term.go:73
    refine wl (ro_move rfl) ?_
    refine wl (ro_move rfl) ?_
    refine wl_call rfl en_122 (IH w2 n' k.1 k.2 (hC2.kids k hkm) (hkB k hkm) hn2 hn6') ?_
    rintro _ w3 ⟨rfl, ⟨n3, hn3, hn3e⟩, F3⟩
    refine wl (ro_not rfl) ?_
    refine wl_nil (x_then (hK13 _ _ ?_))
    clear hK13 K13
    refine wc_cond rfl (fun hc29 => ?_) (fun hc29 => ?_)
    · try simp only [decide_eq_true_eq, decide_eq_false_iff_not, Bool.not_eq_true', Bool.not_eq_false', Bool.not_eq_eq_eq_not, Bool.not_true, Bool.not_false, beq_iff_eq, bne_iff_ne, ne_eq, beq_eq_false_iff_ne, bne_eq_false_iff_eq, gt_iff_lt, ge_iff_le, Int.not_lt, Int.not_le] at hc29
      have hgt : ¬ max n' k.2.m ≤ 6 := by simpa using hc29
      refine c_seq (fun K14 hK14 => ?_)
      refine c_reg ?_ -- region 10 term.go:74
      refine wl (ro_assign rfl) ?_
      refine wl_nil (x_then (hK14 _ _ ?_))
      clear hK14 K14
      refine c_ret (x_blkR (x_thenR (x_thenR (x_blkR (x_blkR (x_thenR ?_))))))
      refine bp_ret Tryz.results122 rfl ?_
      refine ⟨?_, ⟨n3, hn3, fun h => by omega⟩, F2.trans F3⟩
      rw [decide_eq_false (by omega)]
    · try simp only [decide_eq_true_eq, decide_eq_false_iff_not, Bool.not_eq_true', Bool.not_eq_false', Bool.not_eq_eq_eq_not, Bool.not_true, Bool.not_false, beq_iff_eq, bne_iff_ne, ne_eq, beq_eq_false_iff_ne, bne_eq_false_iff_eq, gt_iff_lt, ge_iff_le, Int.not_lt, Int.not_le] at hc29
      have hgt : max n' k.2.m ≤ 6 := by simpa using hc29
      refine c_skip (x_blk (x_then (hK11 _ _ ?_)))
      clear hK11 K11
      refine c_reg ?_ -- region 11 term.go:72
      refine wl (ro_arith rfl rfl rfl (Go.IntWalk.i64_in _ (by omega))) ?_
      refine wl (ro_move rfl) ?_
      refine wl_nil (x_then ?_)
      exact ⟨ks.length - (j + 1), by omega, j + 1, max n' k.2.m, rfl, by omega, by rw [hmt]; omega, hgt, hn3e hgt ▸ hn3, F2.trans F3, kp _ ⟨rfl, rfl, rfl, rfl, trivial⟩⟩
  · try simp only [decide_eq_true_eq, decide_eq_false_iff_not, Bool.not_eq_true', Bool.not_eq_false', Bool.not_eq_eq_eq_not, Bool.not_true, Bool.not_false, beq_iff_eq, bne_iff_ne, ne_eq, beq_eq_false_iff_ne, bne_eq_false_iff_eq, gt_iff_lt, ge_iff_le, Int.not_lt, Int.not_le] at hc23
    have hje : j = ks.length := by omega
    have hall : (ks.map (·.2)).take j = ks.map (·.2) := by rw [hje, ← List.length_map (f := (·.2)), List.take_length]
    rw [hall] at hn'
    refine c_exit (x_thenX (x_thenX (x_blkX (x_blk (x_then (hK4 _ _ ?_))))))
    clear hK10 K10 hK4 K4
    refine forget [] trivial (fun e => ?_)
    refine c_seq (fun K15 hK15 => ?_)
    refine c_reg ?_ -- region 14 term.go:79
    refine wl (ro_assign rfl) ?_
    refine wl_nil (x_then (hK15 _ _ ?_))
    clear hK15 K15
    refine c_ret ?_
    refine bp_ret Tryz.results122 rfl ?_
    refine ⟨?_, ⟨n', hn2, fun _ => hn'⟩, F2⟩
    rw [decide_eq_true (by omega)]

theorem walk122 : ∀ (d nb : Nat), WSpec d nb
  | 0, nb => fun w n v i h => h.elim
  | d + 1, nb => fun w n v i h hB hn hn6 => by
    rcases h with ⟨c, k, rfl, hk, rfl⟩ | ⟨rfl, rfl⟩ | ⟨cb, c, VA, ks, rfl, hC, hk3, _, _, hm, _⟩
    · by_cases hle : max n (k + 1) ≤ 6
      · skip
        refine ret_of Tryz.func122 rfl Tryz.ntmps122 rfl ?_
        refine c_seq (fun K1 hK1 => ?_)
        refine c_reg ?_ -- region 0 term.go:66
        refine wl (ro_assign rfl) ?_
        refine wl_nil (x_then (hK1 _ _ ?_))
        clear hK1 K1
        refine c_seq (fun K2 hK2 => ?_)
        refine c_seq (fun K3 hK3 => ?_)
        refine c_reg ?_ -- region 1 term.go:67
        refine wl (ro_move rfl) ?_
        refine wl (ro_move rfl) ?_
        refine wl_callv (cs := [ptr nb]) rfl rfl en_121 (visit121v hn c hk) ?_
        rintro _ w1 ⟨rfl, hn1, F1⟩
        rw [decide_eq_true hle]
        refine wl (ro_not rfl) ?_
        refine wl_nil (x_then (hK3 _ _ ?_))
        clear hK3 K3
        refine wc_condF rfl ?_
        refine c_skip (x_then (hK2 _ _ ?_))
        clear hK2 K2
        refine c_seq (fun K4 hK4 => ?_)
        refine c_seq (fun K5 hK5 => ?_)
        refine c_reg ?_ -- region 3 term.go:70
        refine wl (ro_move rfl) ?_
        refine wl_nil (x_then (hK5 _ _ ?_))
        clear hK5 K5
        refine c_block ?_
        refine forget [(1, _), (13, _)] ⟨rfl, rfl, trivial⟩ (fun e => ?_)
        refine c_seq (fun K6 hK6 => ?_)
        refine c_reg ?_ -- region 4 term.go:70
        refine wl (ro_taN rfl ni_155 rfl zr_155) ?_
        refine wl (ro_extract rfl rfl) ?_
        refine wl (ro_extract rfl rfl) ?_
        refine wl_nil (x_then (hK6 _ _ ?_))
        clear hK6 K6
        refine wc_condF rfl ?_
        refine c_seq (fun K7 hK7 => ?_)
        refine c_reg ?_ -- region 12 term.go:70
        refine wl (ro_taY rfl ni_214) ?_
        refine wl (ro_extract rfl rfl) ?_
        refine wl (ro_extract rfl rfl) ?_
        refine wl (ro_taN rfl ni_220 rfl zr_220) ?_
        refine wl (ro_extract rfl rfl) ?_
        refine wl (ro_extract rfl rfl) ?_
        refine wl (ro_pick rfl rfl rfl) ?_
        refine wl_nil (x_then (hK7 _ _ ?_))
        clear hK7 K7
        refine wc_condT rfl ?_
        refine c_reg ?_ -- region 13 term.go:70
        refine wl (ro_assign rfl) ?_
        refine wl_nil (x_blk (x_then (hK4 _ _ ?_)))
        clear hK4 K4
        refine forget [] trivial (fun e => ?_)
        refine c_seq (fun K8 hK8 => ?_)
        refine c_reg ?_ -- region 14 term.go:79
        refine wl (ro_assign rfl) ?_
        refine wl_nil (x_then (hK8 _ _ ?_))
        clear hK8 K8
        refine c_ret ?_
        refine bp_ret Tryz.results122 rfl ?_
        refine ⟨?_, ⟨_, hn1, fun _ => rfl⟩, F1⟩
        rw [decide_eq_true hle]
      · skip
        refine ret_of Tryz.func122 rfl Tryz.ntmps122 rfl ?_
        refine c_seq (fun K1 hK1 => ?_)
        refine c_reg ?_ -- region 0 term.go:66
        refine wl (ro_assign rfl) ?_
        refine wl_nil (x_then (hK1 _ _ ?_))
        clear hK1 K1
        refine c_seq (fun K2 hK2 => ?_)
        refine c_seq (fun K3 hK3 => ?_)
        refine c_reg ?_ -- region 1 term.go:67
        refine wl (ro_move rfl) ?_
        refine wl (ro_move rfl) ?_
        refine wl_callv (cs := [ptr nb]) rfl rfl en_121 (visit121v hn c hk) ?_
        rintro _ w1 ⟨rfl, hn1, F1⟩
        rw [decide_eq_false hle]
        refine wl (ro_not rfl) ?_
        refine wl_nil (x_then (hK3 _ _ ?_))
        clear hK3 K3
        refine wc_condT rfl ?_
        refine c_seq (fun K4 hK4 => ?_)
        refine c_reg ?_ -- region 2 term.go:68
        refine wl (ro_assign rfl) ?_
        refine wl_nil (x_then (hK4 _ _ ?_))
        clear hK4 K4
        refine c_ret (x_thenR ?_)
        refine bp_ret Tryz.results122 rfl ?_
        refine ⟨?_, ⟨_, hn1, fun _ => rfl⟩, F1⟩
        rw [decide_eq_false hle]
    · skip
      refine ret_of Tryz.func122 rfl Tryz.ntmps122 rfl ?_
      refine c_seq (fun K1 hK1 => ?_)
      refine c_reg ?_ -- region 0 term.go:66
      refine wl (ro_assign rfl) ?_
      refine wl_nil (x_then (hK1 _ _ ?_))
      clear hK1 K1
      refine c_seq (fun K2 hK2 => ?_)
      refine c_seq (fun K3 hK3 => ?_)
      refine c_reg ?_ -- region 1 term.go:67
      refine wl (ro_move rfl) ?_
      refine wl (ro_move rfl) ?_
      refine wl_callv (cs := [ptr nb]) rfl rfl en_121 (visit121n hn rfl) ?_
      rintro _ w1 ⟨rfl, hn1, F1⟩
      rw [decide_eq_true hn6]
      refine wl (ro_not rfl) ?_
      refine wl_nil (x_then (hK3 _ _ ?_))
      clear hK3 K3
      refine wc_condF rfl ?_
      refine c_skip (x_then (hK2 _ _ ?_))
      clear hK2 K2
      refine c_seq (fun K4 hK4 => ?_)
      refine c_seq (fun K5 hK5 => ?_)
      refine c_reg ?_ -- region 3 term.go:70
      refine wl (ro_move rfl) ?_
      refine wl_nil (x_then (hK5 _ _ ?_))
      clear hK5 K5
      refine c_block ?_
      refine forget [(1, _), (13, _)] ⟨rfl, rfl, trivial⟩ (fun e => ?_)
      refine c_seq (fun K6 hK6 => ?_)
      refine c_reg ?_ -- region 4 term.go:70
      refine wl (ro_taN rfl ni_155 rfl zr_155) ?_
      refine wl (ro_extract rfl rfl) ?_
      refine wl (ro_extract rfl rfl) ?_
      refine wl_nil (x_then (hK6 _ _ ?_))
      clear hK6 K6
      refine wc_condF rfl ?_
      refine c_seq (fun K7 hK7 => ?_)
      refine c_reg ?_ -- region 12 term.go:70
      refine wl (ro_taN rfl ni_214 rfl zr_214) ?_
      refine wl (ro_extract rfl rfl) ?_
      refine wl (ro_extract rfl rfl) ?_
      refine wl (ro_taY rfl ni_220) ?_
      refine wl (ro_extract rfl rfl) ?_
      refine wl (ro_extract rfl rfl) ?_
      refine wl (ro_pick rfl rfl rfl) ?_
      refine wl_nil (x_then (hK7 _ _ ?_))
      clear hK7 K7
      refine wc_condT rfl ?_
      refine c_reg ?_ -- region 13 term.go:70
      refine wl (ro_assign rfl) ?_
      refine wl_nil (x_blk (x_then (hK4 _ _ ?_)))
      clear hK4 K4
      refine forget [] trivial (fun e => ?_)
      refine c_seq (fun K8 hK8 => ?_)
      refine c_reg ?_ -- region 14 term.go:79
      refine wl (ro_assign rfl) ?_
      refine wl_nil (x_then (hK8 _ _ ?_))
      clear hK8 K8
      refine c_ret ?_
      refine bp_ret Tryz.results122 rfl ?_
      refine ⟨?_, ⟨_, hn1, fun _ => by simp⟩, F1⟩
      rw [decide_eq_true (by simp; omega)]
    · rw [hm]
      exact walk122c (walk122 d nb) hC hB hn hn6 (by omega)

end Go.Proofs.Qxb6500569aGreat
