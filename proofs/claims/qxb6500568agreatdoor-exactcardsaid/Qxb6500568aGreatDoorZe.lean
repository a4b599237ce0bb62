import Derived.Test.Qxb6500568aGreatDoorZc
import Derived.Test.Qxb6500568aGreatDoorZd
/- The compiler: declare, bind, param, leave, slot, jump and its patcher. -/
namespace Go.Proofs.Qxb6500568aGreatDoor
open Ieee
set_option linter.unusedVariables false
set_option linter.unusedSimpArgs false
set_option linter.unusedSectionVars false

theorem max_i64 (a b : Nat) : Value.int .i64 (if (b : Int) > (a : Int) then (b : Int) else (a : Int)) = i64c (max a b) := by
  show Value.int .i64 _ = Value.int .i64 _
  congr 1
  split <;> omega
section
variable {E : ZEnv} {w : World} {ow : Nat → Nat} {O : List Nat} {S : Fns} {f : ZAct} {q : List ZAct}
theorem ZP.tr {u v : World} {ow1 : Nat → Nat} {O2 : List Nat} {S2 : Fns} {A2 : List ZAct} (x1 : Xt w ow ow1) (f1 : Fram (tg ow cpT) w u) (h : ZP E u ow1 O2 S2 A2 v) : ZP E w ow O2 S2 A2 v := by
  obtain ⟨o2, x2, f2, h2⟩ := h
  exact ⟨o2, x1.trans f1.size x2, cp_trans (d := u.drawn) x1 f1 f2, h2⟩

set_option maxHeartbeats 4000000 in
theorem declare189 (hR : CM E w ow O S (f :: q)) {nm : Str} (hb : f.L.length ≤ 100) (hl : f.j < S.length) :
    Ret Tryz.prog 189 [fptr E f.j, Go.Proofs.Qxb6500568aGreatDoor.S nm] w (fun r w' => r = i64c f.L.length ∧ ZP E w ow O (declF f.j (f.L.length + 1) S) ({ f with L := f.L ++ [nm] } :: q) w') := by
  have hF : Fram none' w w := Fram.refl _ _
  obtain ⟨R_, z_, op⟩ := hR.open (f := f) (by simp)
  have hG := op.B
  have hob : ∀ c, own1 (.slice z_.la f.L.length z_.lc) c → c ≠ E.gb ∧ c < w.heap.size := fun c y => ⟨fun e => by have := op.loc.t _ y; rw [e, hR.ta] at this; have := op.j; omega, op.loc.o.lt y⟩
  refine ret_of Tryz.func189 rfl Tryz.ntmps189 rfl ?_
  refine c_seq (fun K1 hK1 => ?_)
  refine c_reg ?_ -- region 0 fn.go:77
  refine wl (ro_assign rfl) ?_
  refine wl_nil (x_then (hK1 _ _ ?_))
  clear hK1 K1
  refine forget [(0, _), (1, _)] ⟨rfl, rfl, trivial⟩ (fun e => ?_)
  refine c_seq (fun K2 hK2 => ?_)
  refine c_reg ?_ -- region 1 fn.go:78
  refine wl (ro_move rfl) ?_
  refine wl (ro_move rfl) ?_
  refine wl (ro_nilCheck rfl) ?_
  refine wl (ro_fieldAddr (k := 3) rfl fo_199_3) ?_
  refine wl (ro_loadB rfl sc_192 hG (op.row 3 (by decide))) ?_
  refine wl (ro_move rfl) ?_
  refine wl_bsapp (t := 192) (et := 9) (k := 1) (m := f.L.length) (cs := [Go.Proofs.Qxb6500568aGreatDoor.S nm]) rfl rfl rfl rfl se_192 zx_9 by_9 rfl rfl rfl (by simp [Value.oneCell', Go.Proofs.Qxb6500568aGreatDoor.S]) op.loc.o (by omega) (by omega) ?_
  intro v' u1 hon G1 hnb
  obtain ⟨L', hL'⟩ : ∃ L', L' = f.L ++ [nm] := ⟨_, rfl⟩
  have el : f.L.length + 1 = L'.length := by rw [hL']; simp
  rw [el, show f.L.map Go.Proofs.Qxb6500568aGreatDoor.S ++ [Go.Proofs.Qxb6500568aGreatDoor.S nm] = L'.map Go.Proofs.Qxb6500568aGreatDoor.S by rw [hL']; simp] at hon
  obtain ⟨va, vc, rfl⟩ := hon.form
  replace hG := G1.blkF hG (fun y => (hob _ y).1 rfl)
  skip
  refine wl (ro_nilCheck rfl) ?_
  refine wl (ro_fieldAddr (k := 3) rfl fo_199_3) ?_
  refine wl_put rfl rfl rfl sz_192 hG ((by show _ < (rws fnc R_).length; rw [rws_len fnc_len, op.l]; have := op.j; omega)) (rfl) (fun w1 hG F1 => ?_)
  have hF3 := (F1)
  obtain ⟨ow1, x1, f1, hR1⟩ := hR.locS op hF hon G1 hnb hF3 hG
  clear hG hF
  obtain ⟨f2, hf2⟩ : ∃ f2, f2 = { f with L := L' } := ⟨_, rfl⟩
  rw [← hf2] at hR1
  have hfj : f2.j = f.j := by rw [hf2]
  have hfL : f2.L = L' := by rw [hf2]
  have hfl : f2.L.length = f.L.length + 1 := by rw [hfL]; exact el.symm
  obtain ⟨R2, z2, op2⟩ := hR1.open (f := f2) (by simp)
  have hG := op2.B
  have hrow := op2.row
  rw [hfj] at hrow
  refine wl_nil (x_then (hK2 _ _ ?_))
  clear hK2 K2
  refine forget [(0, _)] ⟨rfl, trivial⟩ (fun e => ?_)
  refine c_seq (fun K3 hK3 => ?_)
  refine c_piL 13 [(0, false), (1, false), (2, false), (3, false), (4, false), (5, false), (6, false), (7, false), (8, false), (9, false), (10, false), (11, false), (12, false)] (SameH _) mixed (by kernel_rfl) rfl (by kernel_rfl) (po_then (po_bp)) (sameH_now _ _) ?_ -- region 2 fn.go:79
  refine ql_ro rfl (fun w hS => ro_move rfl) ?_
  refine ql_ro rfl (fun w hS => ro_move rfl) ?_
  refine ql_ro rfl (fun w hS => ro_nilCheck rfl) ?_
  refine ql_ro rfl (fun w hS => ro_fieldAddr (k := 4) rfl fo_199_4) ?_
  refine ql_ro rfl (fun w hS => ro_loadB rfl sc_3 (Blk.of_heap hG hS) (hrow 4 (by decide))) ?_
  refine ql_ro rfl (fun w hS => ro_move rfl) ?_
  refine ql_ro rfl (fun w hS => ro_nilCheck rfl) ?_
  refine ql_ro rfl (fun w hS => ro_fieldAddr (k := 3) rfl fo_199_3) ?_
  refine ql_ro rfl (fun w hS => ro_loadB rfl sc_192 (Blk.of_heap hG hS) (hrow 3 (by decide))) ?_
  refine ql_ro rfl (fun w hS => ro_lenL rfl se_192) ?_
  refine ql_ro rfl (fun w hS => ro_max rfl rfl) ?_
  refine ql_ro rfl (fun w hS => ro_nilCheck rfl) ?_
  refine ql_ro rfl (fun w hS => ro_fieldAddr (k := 4) rfl fo_199_4) ?_
  refine ql_put rfl rfl rfl rfl sz_3 hG ((by show _ < (rws fnc R2).length; rw [rws_len fnc_len, op2.l]; have := op.j; omega)) (rfl) (fun w2 hG F2 => ?_)
  have hF4 := (F2)
  rw [max_i64] at hG
  refine x_then (hK3 _ _ ?_)
  clear hK3 K3
  refine forget [(0, _)] ⟨rfl, trivial⟩ (fun e => ?_)
  refine c_seq (fun K4 hK4 => ?_)
  have hR2 := hR1.numS (S' := declF f.j (f.L.length + 1) S) (o := 4) op2 ((Fram.refl none' _).thenDrew) hF4 (by rw [hfj]; exact hG) (by decide) ?hA ?hB ?hC ?hD
  case hA =>
    unfold declF mkR fnc
    rw [hfj, fsAt_mod hl, if_pos rfl]
    simp only [List.set_cons_succ, List.set_cons_zero]
    rw [hfl]
  case hB => unfold declF; rw [hfj, fsAt_mod hl, if_pos rfl]
  case hC => unfold declF; rw [hfj, fsAt_mod hl, if_pos rfl]
  case hD => intro k hk; unfold declF; rw [hfj] at hk; rw [fsAt_mod hl, if_neg hk]
  refine c_reg ?_ -- region 3 fn.go:80
  refine wl (ro_move rfl) ?_
  refine wl (ro_nilCheck rfl) ?_
  refine wl (ro_fieldAddr (k := 3) rfl fo_199_3) ?_
  refine wl (ro_loadB rfl sc_192 (hG) ((by rw [List.getElem?_set_ne (by omega)]; exact hrow 3 (by decide)))) ?_
  refine wl (ro_lenL rfl se_192) ?_
  refine wl (ro_arith rfl rfl rfl (Go.IntWalk.i64_in _ (by omega))) ?_
  refine wl (ro_assign rfl) ?_
  refine wl_nil (x_then (hK4 _ _ ?_))
  clear hK4 K4
  refine c_ret ?_
  refine bp_ret Tryz.results189 rfl ?_
  refine ⟨?_, ?_⟩
  · show Value.int .i64 _ = Value.int .i64 _
    congr 1
    omega
  · rw [← hL', ← hf2]
    exact ZP.tr x1 f1 hR2
end
end Go.Proofs.Qxb6500568aGreatDoor
