import Derived.Test.Qxb6500568aGreatDoorZb
/- The compiler: emit. -/
namespace Go.Proofs.Qxb6500568aGreatDoor
open Ieee
set_option linter.unusedVariables false
set_option linter.unusedSimpArgs false
set_option linter.unusedSectionVars false

set_option maxHeartbeats 4000000 in
theorem emit80 {E : ZEnv} {w : World} {ow : Nat → Nat} {O : List Nat} {S : Fns} {f : ZAct} {q : List ZAct} (hR : CM E w ow O S (f :: q)) {is : Cod} {nb nt m2 c2 : Nat} {l2 : List Value} (hI : Blk w.heap nb l2 nt) (h2 : (l2.drop 0).take (m2 * 2) = rws inc is) (hm2 : is.length = m2) (hb : f.code.length + is.length ≤ 100000) :
    Ret Tryz.prog 80 [fptr E f.j, .slice (some ⟨nb, 0, none⟩) m2 c2] w (fun r w' => r = .tuple #[] ∧ ZP E w ow O S ({ f with code := f.code ++ is } :: q) w') := by
  have hF : Fram none' w w := Fram.refl _ _
  obtain ⟨R_, z_, op⟩ := hR.open (f := f) (by simp)
  have hG := op.B
  have hob : ∀ c, own1 (.slice z_.ca f.code.length z_.cc) c → c ≠ E.gb ∧ c < w.heap.size := fun c y => ⟨fun e => by have := op.code.t _ y; rw [e, hR.ta] at this; have := op.j; omega, op.code.o.lt y⟩
  refine ret_of Tryz.func80 rfl Tryz.ntmps80 rfl ?_
  refine c_reg ?_ -- region 0 fn.go:57
  refine wl (ro_move rfl) ?_
  refine wl (ro_move rfl) ?_
  refine wl (ro_nilCheck rfl) ?_
  refine wl (ro_fieldAddr (k := 9) rfl fo_199_9) ?_
  refine wl (ro_loadB rfl sc_196 hG (op.row 9 (by decide))) ?_
  refine wl (ro_move rfl) ?_
  refine wl_app (t := 196) (et := 203) (k := 2) (m := f.code.length) (news := rws inc is) rfl rfl se_196 zx_203 by_203 rfl op.code.o hI h2 (by rw [rws_len inc_len]; omega) (rws_oneC inc_one is) (by omega) (by omega) ?_
  intro v' u1 hon hg hloc
  have G1 : Fram (own1 (.slice z_.ca f.code.length z_.cc)) w u1 := Fram.grown hg (fun k hk => .inl hk)
  have hnb : nob (.slice z_.ca f.code.length z_.cc) v' w := fun b hb => by
    rcases hloc with h | h
    · rw [h] at hb; exact .inl hb
    · rw [h] at hb; cases hb; exact .inr (Nat.le_refl _)
  rw [← rws_app, ← hm2, ← List.length_append] at hon
  obtain ⟨va, vc, rfl⟩ := hon.form
  replace hG := G1.blkF hG (fun y => (hob _ y).1 rfl)
  refine wl (ro_nilCheck rfl) ?_
  refine wl (ro_fieldAddr (k := 9) rfl fo_199_9) ?_
  refine wl_put rfl rfl rfl sz_196 hG ((by show _ < (rws fnc R_).length; rw [rws_len fnc_len, op.l]; have := op.j; omega)) (rfl) (fun w1 hG F1 => ?_)
  have hF3 := (F1)
  refine wl_nil ?_
  refine bp_end Tryz.results80 rfl ?_
  exact ⟨rfl, hR.codeS op hF hon G1 hnb hF3 hG⟩
end Go.Proofs.Qxb6500568aGreatDoor
