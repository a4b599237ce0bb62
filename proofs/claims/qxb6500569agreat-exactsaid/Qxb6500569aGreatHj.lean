import Derived.Test.Qxb6500569aGreatHi
/- The real heap: Load. -/
namespace Go.Proofs.Qxb6500569aGreat
set_option linter.unusedVariables false
set_option linter.unusedSimpArgs false

def LoadPost (w : World) (L : HL) (R : RH) (ns : List Nd) (r : Value) (w' : World) : Prop :=
  if R.tags.length + ns.length > 64 then r = .tuple #[.int .i64 (-1), i64c 6] ∧ w' = w
  else r = .tuple #[i64c R.tags.length, i64c 0] ∧ ∃ R', HPost w L R' w' ∧ WF R' ∧ R'.abs = R.abs ++ ns ∧ R'.snaps = R.snaps ∧ R'.marks = R.marks

theorem Load31 {w : World} {L : HL} {R : RH} (H : HeapAt w.heap L R) (wf : WF R) {code : List UInt8} {ns : List Nd} (hl : Lays code R.tags.length ns) (hc : code.length ≤ 48) :
    Ret Tryz.prog 31 [ptr L.h, S code] w (LoadPost w L R ns) := by
  have hB := H.st
  have hsz := wf.core.size
  have hns : ns.length ≤ 48 := by obtain ⟨k, env, h⟩ := hl; have := (h.facts (envLt0 _)).2.2.2.2.2; simp at this; omega
  refine ret_of Tryz.func31 rfl Tryz.ntmps31 rfl ?_
  refine c_seq (fun K1 hK1 => ?_)
  refine c_reg ?_ -- region 0 load.go:44
  refine wl (ro_assign rfl) ?_
  refine wl (ro_assign rfl) ?_
  refine wl_nil (x_then (hK1 _ _ ?_))
  clear hK1 K1
  refine c_seq (fun K2 hK2 => ?_)
  refine c_seq (fun K3 hK3 => ?_)
  refine c_reg ?_ -- region 1 load.go:45
  refine wl (ro_move rfl) ?_
  refine wl (ro_lenS rfl st_9) ?_
  refine wl (ro_cmp (r := false) rfl rfl (by simp; omega)) ?_
  refine wl_nil (x_then (hK3 _ _ ?_))
  clear hK3 K3
  refine wc_condF rfl ?_
  refine c_skip (x_then (hK2 _ _ ?_))
  clear hK2 K2
  refine forget [(0, _), (1, _)] ⟨rfl, rfl, trivial⟩ (fun e => ?_)
  refine c_seq (fun K4 hK4 => ?_)
  refine c_reg ?_ -- region 3 load.go:48
  refine wl (ro_move rfl) ?_
  refine wl_call rfl en_55 (scan55 hl hc) ?_
  rintro _ w ⟨rfl, rfl⟩
  refine wl (ro_assign rfl) ?_
  refine wl_nil (x_then (hK4 _ _ ?_))
  clear hK4 K4
  refine c_seq (fun K5 hK5 => ?_)
  refine c_seq (fun K6 hK6 => ?_)
  refine c_reg ?_ -- region 4 load.go:49
  refine wl (ro_move rfl) ?_
  refine wl (ro_cmp (r := false) rfl rfl (by simp)) ?_
  refine wl_nil (x_then (hK6 _ _ ?_))
  clear hK6 K6
  refine wc_condF rfl ?_
  refine c_skip (x_then (hK5 _ _ ?_))
  clear hK5 K5
  refine c_seq (fun K7 hK7 => ?_)
  refine c_seq (fun K8 hK8 => ?_)
  refine c_reg ?_ -- region 6 load.go:52
  refine wl (ro_move rfl) ?_
  refine wl (ro_nilCheck rfl) ?_
  refine wl (ro_fieldAddr (k := 0) rfl fo_69_0) ?_
  refine wl (ro_loadB rfl sc_64 (by assumption) rfl) ?_
  refine wl (ro_lenL rfl se_64) ?_
  refine wl (ro_move rfl) ?_
  refine wl (ro_arith rfl rfl rfl (Go.IntWalk.i64_in _ (by omega))) ?_
  refine wl (ro_cmp rfl rfl rfl) ?_
  refine wl_nil (x_then (hK8 _ _ ?_))
  clear hK8 K8
  refine wc_cond rfl (fun hc22 => ?_) (fun hc22 => ?_)
  · try simp only [decide_eq_true_eq, decide_eq_false_iff_not, Bool.not_eq_true', Bool.not_eq_false', Bool.not_eq_eq_eq_not, Bool.not_true, Bool.not_false, beq_iff_eq, bne_iff_ne, ne_eq, beq_eq_false_iff_ne, bne_eq_false_iff_eq, gt_iff_lt, ge_iff_le, Int.not_lt, Int.not_le] at hc22
    refine c_seq (fun K9 hK9 => ?_)
    refine c_reg ?_ -- region 7 load.go:53
    refine wl (ro_assign rfl) ?_
    refine wl (ro_assign rfl) ?_
    refine wl_nil (x_then (hK9 _ _ ?_))
    clear hK9 K9
    refine c_ret (x_thenR ?_)
    refine bp_ret Tryz.results31 rfl ?_
    unfold LoadPost
    rw [if_pos (by omega)]
    exact ⟨rfl, rfl⟩
  · try simp only [decide_eq_true_eq, decide_eq_false_iff_not, Bool.not_eq_true', Bool.not_eq_false', Bool.not_eq_eq_eq_not, Bool.not_true, Bool.not_false, beq_iff_eq, bne_iff_ne, ne_eq, beq_eq_false_iff_ne, bne_eq_false_iff_eq, gt_iff_lt, ge_iff_le, Int.not_lt, Int.not_le] at hc22
    refine c_skip (x_then (hK7 _ _ ?_))
    clear hK7 K7
    refine forget [(0, _), (1, _)] ⟨rfl, rfl, trivial⟩ (fun e => ?_)
    refine c_seq (fun K10 hK10 => ?_)
    refine c_reg ?_ -- region 8 load.go:55
    refine wl (ro_move rfl) ?_
    refine wl (ro_nilCheck rfl) ?_
    refine wl (ro_fieldAddr (k := 0) rfl fo_69_0) ?_
    refine wl (ro_loadB rfl sc_64 (by assumption) rfl) ?_
    refine wl (ro_lenL rfl se_64) ?_
    refine wl (ro_assign rfl) ?_
    refine wl_nil (x_then (hK10 _ _ ?_))
    clear hK10 K10
    refine forget [(0, _), (1, _), (7, _)] ⟨rfl, rfl, rfl, trivial⟩ (fun e => ?_)
    refine c_seq (fun K11 hK11 => ?_)
    refine c_reg ?_ -- region 9 load.go:56
    refine wl (ro_move rfl) ?_
    refine wl (ro_move rfl) ?_
    refine wl_call rfl en_56 (lay56 H wf.core hl hc (by omega)) ?_
    rintro r w1 ⟨P, hp, hw, ha, hlo⟩
    refine wl_nil (x_then (hK11 _ _ ?_))
    clear hK11 K11
    refine forget [(7, _)] ⟨rfl, trivial⟩ (fun e => ?_)
    refine c_seq (fun K12 hK12 => ?_)
    refine c_reg ?_ -- region 10 load.go:57
    refine wl (ro_move rfl) ?_
    refine wl (ro_assign rfl) ?_
    refine wl (ro_assign rfl) ?_
    refine wl_nil (x_then (hK12 _ _ ?_))
    clear hK12 K12
    refine c_ret ?_
    refine bp_ret Tryz.results31 rfl ?_
    unfold LoadPost
    rw [if_neg (by omega)]
    obtain ⟨k1, k2⟩ := wf_longer wf hlo hw
    exact ⟨rfl, P, hp, k1, ha, k2, hlo.marks⟩

end Go.Proofs.Qxb6500569aGreat
