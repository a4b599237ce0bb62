import Derived.Test.Qxb6500570aGreatBb
/- The real former: a word's token. -/
namespace Go.Proofs.Qxb6500570aGreat
set_option linter.unusedVariables false
set_option linter.unusedSimpArgs false

theorem FuncName182 {w : World} {f : Nat} (h1 : 1 ≤ f) (h2 : f ≤ 10) : Ret Tryz.prog 182 [i64c f] w (fun v w' => v = S (fnm f) ∧ w' = w) := by
  have hf : f = 1 ∨ f = 2 ∨ f = 3 ∨ f = 4 ∨ f = 5 ∨ f = 6 ∨ f = 7 ∨ f = 8 ∨ f = 9 ∨ f = 10 := by omega
  rcases hf with rfl | rfl | rfl | rfl | rfl | rfl | rfl | rfl | rfl | rfl
  · skip
    refine ret_of Tryz.func182 rfl Tryz.ntmps182 rfl ?_
    refine c_seq (fun K1 hK1 => ?_)
    refine c_reg ?_ -- region 0 const.go:265
    refine wl (ro_assign rfl) ?_
    refine wl_nil (x_then (hK1 _ _ ?_))
    clear hK1 K1
    refine c_seq (fun K2 hK2 => ?_)
    refine c_seq (fun K3 hK3 => ?_)
    refine c_reg ?_ -- region 1 const.go:266
    refine wl (ro_move rfl) ?_
    refine wl_nil (x_then (hK3 _ _ ?_))
    clear hK3 K3
    refine c_block ?_
    refine forget [(3, _)] ⟨rfl, trivial⟩ (fun e => ?_)
    refine c_seq (fun K4 hK4 => ?_)
    refine c_reg ?_ -- region 2 const.go:267
    refine wl (ro_cmp rfl rfl rfl) ?_
    refine wl (ro_assign rfl) ?_
    refine wl_nil (x_then (hK4 _ _ ?_))
    clear hK4 K4
    refine wc_condT rfl ?_
    refine c_seq (fun K5 hK5 => ?_)
    refine c_reg ?_ -- region 3 const.go:268
    refine wl (ro_assign rfl) ?_
    refine wl_nil (x_then (hK5 _ _ ?_))
    clear hK5 K5
    refine c_ret (x_blkR (x_thenR ?_))
    refine bp_ret Tryz.results182 rfl ?_
    exact ⟨rfl, rfl⟩
  · skip
    refine ret_of Tryz.func182 rfl Tryz.ntmps182 rfl ?_
    refine c_seq (fun K1 hK1 => ?_)
    refine c_reg ?_ -- region 0 const.go:265
    refine wl (ro_assign rfl) ?_
    refine wl_nil (x_then (hK1 _ _ ?_))
    clear hK1 K1
    refine c_seq (fun K2 hK2 => ?_)
    refine c_seq (fun K3 hK3 => ?_)
    refine c_reg ?_ -- region 1 const.go:266
    refine wl (ro_move rfl) ?_
    refine wl_nil (x_then (hK3 _ _ ?_))
    clear hK3 K3
    refine c_block ?_
    refine forget [(3, _)] ⟨rfl, trivial⟩ (fun e => ?_)
    refine c_seq (fun K4 hK4 => ?_)
    refine c_reg ?_ -- region 2 const.go:267
    refine wl (ro_cmp rfl rfl rfl) ?_
    refine wl (ro_assign rfl) ?_
    refine wl_nil (x_then (hK4 _ _ ?_))
    clear hK4 K4
    refine wc_condF rfl ?_
    refine c_seq (fun K5 hK5 => ?_)
    refine c_reg ?_ -- region 4 const.go:269
    refine wl (ro_cmp rfl rfl rfl) ?_
    refine wl (ro_assign rfl) ?_
    refine wl_nil (x_then (hK5 _ _ ?_))
    clear hK5 K5
    refine wc_condT rfl ?_
    refine c_seq (fun K6 hK6 => ?_)
    refine c_reg ?_ -- region 5 const.go:270
    refine wl (ro_assign rfl) ?_
    refine wl_nil (x_then (hK6 _ _ ?_))
    clear hK6 K6
    refine c_ret (x_blkR (x_thenR ?_))
    refine bp_ret Tryz.results182 rfl ?_
    exact ⟨rfl, rfl⟩
  · skip
    refine ret_of Tryz.func182 rfl Tryz.ntmps182 rfl ?_
    refine c_seq (fun K1 hK1 => ?_)
    refine c_reg ?_ -- region 0 const.go:265
    refine wl (ro_assign rfl) ?_
    refine wl_nil (x_then (hK1 _ _ ?_))
    clear hK1 K1
    refine c_seq (fun K2 hK2 => ?_)
    refine c_seq (fun K3 hK3 => ?_)
    refine c_reg ?_ -- region 1 const.go:266
    refine wl (ro_move rfl) ?_
    refine wl_nil (x_then (hK3 _ _ ?_))
    clear hK3 K3
    refine c_block ?_
    refine forget [(3, _)] ⟨rfl, trivial⟩ (fun e => ?_)
    refine c_seq (fun K4 hK4 => ?_)
    refine c_reg ?_ -- region 2 const.go:267
    refine wl (ro_cmp rfl rfl rfl) ?_
    refine wl (ro_assign rfl) ?_
    refine wl_nil (x_then (hK4 _ _ ?_))
    clear hK4 K4
    refine wc_condF rfl ?_
    refine c_seq (fun K5 hK5 => ?_)
    refine c_reg ?_ -- region 4 const.go:269
    refine wl (ro_cmp rfl rfl rfl) ?_
    refine wl (ro_assign rfl) ?_
    refine wl_nil (x_then (hK5 _ _ ?_))
    clear hK5 K5
    refine wc_condF rfl ?_
    refine c_seq (fun K6 hK6 => ?_)
    refine c_reg ?_ -- region 6 const.go:271
    refine wl (ro_cmp rfl rfl rfl) ?_
    refine wl (ro_assign rfl) ?_
    refine wl_nil (x_then (hK6 _ _ ?_))
    clear hK6 K6
    refine wc_condT rfl ?_
    refine c_seq (fun K7 hK7 => ?_)
    refine c_reg ?_ -- region 7 const.go:272
    refine wl (ro_assign rfl) ?_
    refine wl_nil (x_then (hK7 _ _ ?_))
    clear hK7 K7
    refine c_ret (x_blkR (x_thenR ?_))
    refine bp_ret Tryz.results182 rfl ?_
    exact ⟨rfl, rfl⟩
  · skip
    refine ret_of Tryz.func182 rfl Tryz.ntmps182 rfl ?_
    refine c_seq (fun K1 hK1 => ?_)
    refine c_reg ?_ -- region 0 const.go:265
    refine wl (ro_assign rfl) ?_
    refine wl_nil (x_then (hK1 _ _ ?_))
    clear hK1 K1
    refine c_seq (fun K2 hK2 => ?_)
    refine c_seq (fun K3 hK3 => ?_)
    refine c_reg ?_ -- region 1 const.go:266
    refine wl (ro_move rfl) ?_
    refine wl_nil (x_then (hK3 _ _ ?_))
    clear hK3 K3
    refine c_block ?_
    refine forget [(3, _)] ⟨rfl, trivial⟩ (fun e => ?_)
    refine c_seq (fun K4 hK4 => ?_)
    refine c_reg ?_ -- region 2 const.go:267
    refine wl (ro_cmp rfl rfl rfl) ?_
    refine wl (ro_assign rfl) ?_
    refine wl_nil (x_then (hK4 _ _ ?_))
    clear hK4 K4
    refine wc_condF rfl ?_
    refine c_seq (fun K5 hK5 => ?_)
    refine c_reg ?_ -- region 4 const.go:269
    refine wl (ro_cmp rfl rfl rfl) ?_
    refine wl (ro_assign rfl) ?_
    refine wl_nil (x_then (hK5 _ _ ?_))
    clear hK5 K5
    refine wc_condF rfl ?_
    refine c_seq (fun K6 hK6 => ?_)
    refine c_reg ?_ -- region 6 const.go:271
    refine wl (ro_cmp rfl rfl rfl) ?_
    refine wl (ro_assign rfl) ?_
    refine wl_nil (x_then (hK6 _ _ ?_))
    clear hK6 K6
    refine wc_condF rfl ?_
    refine c_seq (fun K7 hK7 => ?_)
    refine c_reg ?_ -- region 8 const.go:273
    refine wl (ro_cmp rfl rfl rfl) ?_
    refine wl (ro_assign rfl) ?_
    refine wl_nil (x_then (hK7 _ _ ?_))
    clear hK7 K7
    refine wc_condT rfl ?_
    refine c_seq (fun K8 hK8 => ?_)
    refine c_reg ?_ -- region 9 const.go:274
    refine wl (ro_assign rfl) ?_
    refine wl_nil (x_then (hK8 _ _ ?_))
    clear hK8 K8
    refine c_ret (x_blkR (x_thenR ?_))
    refine bp_ret Tryz.results182 rfl ?_
    exact ⟨rfl, rfl⟩
  · skip
    refine ret_of Tryz.func182 rfl Tryz.ntmps182 rfl ?_
    refine c_seq (fun K1 hK1 => ?_)
    refine c_reg ?_ -- region 0 const.go:265
    refine wl (ro_assign rfl) ?_
    refine wl_nil (x_then (hK1 _ _ ?_))
    clear hK1 K1
    refine c_seq (fun K2 hK2 => ?_)
    refine c_seq (fun K3 hK3 => ?_)
    refine c_reg ?_ -- region 1 const.go:266
    refine wl (ro_move rfl) ?_
    refine wl_nil (x_then (hK3 _ _ ?_))
    clear hK3 K3
    refine c_block ?_
    refine forget [(3, _)] ⟨rfl, trivial⟩ (fun e => ?_)
    refine c_seq (fun K4 hK4 => ?_)
    refine c_reg ?_ -- region 2 const.go:267
    refine wl (ro_cmp rfl rfl rfl) ?_
    refine wl (ro_assign rfl) ?_
    refine wl_nil (x_then (hK4 _ _ ?_))
    clear hK4 K4
    refine wc_condF rfl ?_
    refine c_seq (fun K5 hK5 => ?_)
    refine c_reg ?_ -- region 4 const.go:269
    refine wl (ro_cmp rfl rfl rfl) ?_
    refine wl (ro_assign rfl) ?_
    refine wl_nil (x_then (hK5 _ _ ?_))
    clear hK5 K5
    refine wc_condF rfl ?_
    refine c_seq (fun K6 hK6 => ?_)
    refine c_reg ?_ -- region 6 const.go:271
    refine wl (ro_cmp rfl rfl rfl) ?_
    refine wl (ro_assign rfl) ?_
    refine wl_nil (x_then (hK6 _ _ ?_))
    clear hK6 K6
    refine wc_condF rfl ?_
    refine c_seq (fun K7 hK7 => ?_)
    refine c_reg ?_ -- region 8 const.go:273
    refine wl (ro_cmp rfl rfl rfl) ?_
    refine wl (ro_assign rfl) ?_
    refine wl_nil (x_then (hK7 _ _ ?_))
    clear hK7 K7
    refine wc_condF rfl ?_
    refine c_seq (fun K8 hK8 => ?_)
    refine c_reg ?_ -- region 10 const.go:275
    refine wl (ro_cmp rfl rfl rfl) ?_
    refine wl (ro_assign rfl) ?_
    refine wl_nil (x_then (hK8 _ _ ?_))
    clear hK8 K8
    refine wc_condT rfl ?_
    refine c_seq (fun K9 hK9 => ?_)
    refine c_reg ?_ -- region 11 const.go:276
    refine wl (ro_assign rfl) ?_
    refine wl_nil (x_then (hK9 _ _ ?_))
    clear hK9 K9
    refine c_ret (x_blkR (x_thenR ?_))
    refine bp_ret Tryz.results182 rfl ?_
    exact ⟨rfl, rfl⟩
  · skip
    refine ret_of Tryz.func182 rfl Tryz.ntmps182 rfl ?_
    refine c_seq (fun K1 hK1 => ?_)
    refine c_reg ?_ -- region 0 const.go:265
    refine wl (ro_assign rfl) ?_
    refine wl_nil (x_then (hK1 _ _ ?_))
    clear hK1 K1
    refine c_seq (fun K2 hK2 => ?_)
    refine c_seq (fun K3 hK3 => ?_)
    refine c_reg ?_ -- region 1 const.go:266
    refine wl (ro_move rfl) ?_
    refine wl_nil (x_then (hK3 _ _ ?_))
    clear hK3 K3
    refine c_block ?_
    refine forget [(3, _)] ⟨rfl, trivial⟩ (fun e => ?_)
    refine c_seq (fun K4 hK4 => ?_)
    refine c_reg ?_ -- region 2 const.go:267
    refine wl (ro_cmp rfl rfl rfl) ?_
    refine wl (ro_assign rfl) ?_
    refine wl_nil (x_then (hK4 _ _ ?_))
    clear hK4 K4
    refine wc_condF rfl ?_
    refine c_seq (fun K5 hK5 => ?_)
    refine c_reg ?_ -- region 4 const.go:269
    refine wl (ro_cmp rfl rfl rfl) ?_
    refine wl (ro_assign rfl) ?_
    refine wl_nil (x_then (hK5 _ _ ?_))
    clear hK5 K5
    refine wc_condF rfl ?_
    refine c_seq (fun K6 hK6 => ?_)
    refine c_reg ?_ -- region 6 const.go:271
    refine wl (ro_cmp rfl rfl rfl) ?_
    refine wl (ro_assign rfl) ?_
    refine wl_nil (x_then (hK6 _ _ ?_))
    clear hK6 K6
    refine wc_condF rfl ?_
    refine c_seq (fun K7 hK7 => ?_)
    refine c_reg ?_ -- region 8 const.go:273
    refine wl (ro_cmp rfl rfl rfl) ?_
    refine wl (ro_assign rfl) ?_
    refine wl_nil (x_then (hK7 _ _ ?_))
    clear hK7 K7
    refine wc_condF rfl ?_
    refine c_seq (fun K8 hK8 => ?_)
    refine c_reg ?_ -- region 10 const.go:275
    refine wl (ro_cmp rfl rfl rfl) ?_
    refine wl (ro_assign rfl) ?_
    refine wl_nil (x_then (hK8 _ _ ?_))
    clear hK8 K8
    refine wc_condF rfl ?_
    refine c_seq (fun K9 hK9 => ?_)
    refine c_reg ?_ -- region 12 const.go:277
    refine wl (ro_cmp rfl rfl rfl) ?_
    refine wl (ro_assign rfl) ?_
    refine wl_nil (x_then (hK9 _ _ ?_))
    clear hK9 K9
    refine wc_condT rfl ?_
    refine c_seq (fun K10 hK10 => ?_)
    refine c_reg ?_ -- region 13 const.go:278
    refine wl (ro_assign rfl) ?_
    refine wl_nil (x_then (hK10 _ _ ?_))
    clear hK10 K10
    refine c_ret (x_blkR (x_thenR ?_))
    refine bp_ret Tryz.results182 rfl ?_
    exact ⟨rfl, rfl⟩
  · skip
    refine ret_of Tryz.func182 rfl Tryz.ntmps182 rfl ?_
    refine c_seq (fun K1 hK1 => ?_)
    refine c_reg ?_ -- region 0 const.go:265
    refine wl (ro_assign rfl) ?_
    refine wl_nil (x_then (hK1 _ _ ?_))
    clear hK1 K1
    refine c_seq (fun K2 hK2 => ?_)
    refine c_seq (fun K3 hK3 => ?_)
    refine c_reg ?_ -- region 1 const.go:266
    refine wl (ro_move rfl) ?_
    refine wl_nil (x_then (hK3 _ _ ?_))
    clear hK3 K3
    refine c_block ?_
    refine forget [(3, _)] ⟨rfl, trivial⟩ (fun e => ?_)
    refine c_seq (fun K4 hK4 => ?_)
    refine c_reg ?_ -- region 2 const.go:267
    refine wl (ro_cmp rfl rfl rfl) ?_
    refine wl (ro_assign rfl) ?_
    refine wl_nil (x_then (hK4 _ _ ?_))
    clear hK4 K4
    refine wc_condF rfl ?_
    refine c_seq (fun K5 hK5 => ?_)
    refine c_reg ?_ -- region 4 const.go:269
    refine wl (ro_cmp rfl rfl rfl) ?_
    refine wl (ro_assign rfl) ?_
    refine wl_nil (x_then (hK5 _ _ ?_))
    clear hK5 K5
    refine wc_condF rfl ?_
    refine c_seq (fun K6 hK6 => ?_)
    refine c_reg ?_ -- region 6 const.go:271
    refine wl (ro_cmp rfl rfl rfl) ?_
    refine wl (ro_assign rfl) ?_
    refine wl_nil (x_then (hK6 _ _ ?_))
    clear hK6 K6
    refine wc_condF rfl ?_
    refine c_seq (fun K7 hK7 => ?_)
    refine c_reg ?_ -- region 8 const.go:273
    refine wl (ro_cmp rfl rfl rfl) ?_
    refine wl (ro_assign rfl) ?_
    refine wl_nil (x_then (hK7 _ _ ?_))
    clear hK7 K7
    refine wc_condF rfl ?_
    refine c_seq (fun K8 hK8 => ?_)
    refine c_reg ?_ -- region 10 const.go:275
    refine wl (ro_cmp rfl rfl rfl) ?_
    refine wl (ro_assign rfl) ?_
    refine wl_nil (x_then (hK8 _ _ ?_))
    clear hK8 K8
    refine wc_condF rfl ?_
    refine c_seq (fun K9 hK9 => ?_)
    refine c_reg ?_ -- region 12 const.go:277
    refine wl (ro_cmp rfl rfl rfl) ?_
    refine wl (ro_assign rfl) ?_
    refine wl_nil (x_then (hK9 _ _ ?_))
    clear hK9 K9
    refine wc_condF rfl ?_
    refine c_seq (fun K10 hK10 => ?_)
    refine c_reg ?_ -- region 14 const.go:279
    refine wl (ro_cmp rfl rfl rfl) ?_
    refine wl (ro_assign rfl) ?_
    refine wl_nil (x_then (hK10 _ _ ?_))
    clear hK10 K10
    refine wc_condT rfl ?_
    refine c_seq (fun K11 hK11 => ?_)
    refine c_reg ?_ -- region 15 const.go:280
    refine wl (ro_assign rfl) ?_
    refine wl_nil (x_then (hK11 _ _ ?_))
    clear hK11 K11
    refine c_ret (x_blkR (x_thenR ?_))
    refine bp_ret Tryz.results182 rfl ?_
    exact ⟨rfl, rfl⟩
  · skip
    refine ret_of Tryz.func182 rfl Tryz.ntmps182 rfl ?_
    refine c_seq (fun K1 hK1 => ?_)
    refine c_reg ?_ -- region 0 const.go:265
    refine wl (ro_assign rfl) ?_
    refine wl_nil (x_then (hK1 _ _ ?_))
    clear hK1 K1
    refine c_seq (fun K2 hK2 => ?_)
    refine c_seq (fun K3 hK3 => ?_)
    refine c_reg ?_ -- region 1 const.go:266
    refine wl (ro_move rfl) ?_
    refine wl_nil (x_then (hK3 _ _ ?_))
    clear hK3 K3
    refine c_block ?_
    refine forget [(3, _)] ⟨rfl, trivial⟩ (fun e => ?_)
    refine c_seq (fun K4 hK4 => ?_)
    refine c_reg ?_ -- region 2 const.go:267
    refine wl (ro_cmp rfl rfl rfl) ?_
    refine wl (ro_assign rfl) ?_
    refine wl_nil (x_then (hK4 _ _ ?_))
    clear hK4 K4
    refine wc_condF rfl ?_
    refine c_seq (fun K5 hK5 => ?_)
    refine c_reg ?_ -- region 4 const.go:269
    refine wl (ro_cmp rfl rfl rfl) ?_
    refine wl (ro_assign rfl) ?_
    refine wl_nil (x_then (hK5 _ _ ?_))
    clear hK5 K5
    refine wc_condF rfl ?_
    refine c_seq (fun K6 hK6 => ?_)
    refine c_reg ?_ -- region 6 const.go:271
    refine wl (ro_cmp rfl rfl rfl) ?_
    refine wl (ro_assign rfl) ?_
    refine wl_nil (x_then (hK6 _ _ ?_))
    clear hK6 K6
    refine wc_condF rfl ?_
    refine c_seq (fun K7 hK7 => ?_)
    refine c_reg ?_ -- region 8 const.go:273
    refine wl (ro_cmp rfl rfl rfl) ?_
    refine wl (ro_assign rfl) ?_
    refine wl_nil (x_then (hK7 _ _ ?_))
    clear hK7 K7
    refine wc_condF rfl ?_
    refine c_seq (fun K8 hK8 => ?_)
    refine c_reg ?_ -- region 10 const.go:275
    refine wl (ro_cmp rfl rfl rfl) ?_
    refine wl (ro_assign rfl) ?_
    refine wl_nil (x_then (hK8 _ _ ?_))
    clear hK8 K8
    refine wc_condF rfl ?_
    refine c_seq (fun K9 hK9 => ?_)
    refine c_reg ?_ -- region 12 const.go:277
    refine wl (ro_cmp rfl rfl rfl) ?_
    refine wl (ro_assign rfl) ?_
    refine wl_nil (x_then (hK9 _ _ ?_))
    clear hK9 K9
    refine wc_condF rfl ?_
    refine c_seq (fun K10 hK10 => ?_)
    refine c_reg ?_ -- region 14 const.go:279
    refine wl (ro_cmp rfl rfl rfl) ?_
    refine wl (ro_assign rfl) ?_
    refine wl_nil (x_then (hK10 _ _ ?_))
    clear hK10 K10
    refine wc_condF rfl ?_
    refine c_seq (fun K11 hK11 => ?_)
    refine c_reg ?_ -- region 16 const.go:281
    refine wl (ro_cmp rfl rfl rfl) ?_
    refine wl (ro_assign rfl) ?_
    refine wl_nil (x_then (hK11 _ _ ?_))
    clear hK11 K11
    refine wc_condT rfl ?_
    refine c_seq (fun K12 hK12 => ?_)
    refine c_reg ?_ -- region 17 const.go:282
    refine wl (ro_assign rfl) ?_
    refine wl_nil (x_then (hK12 _ _ ?_))
    clear hK12 K12
    refine c_ret (x_blkR (x_thenR ?_))
    refine bp_ret Tryz.results182 rfl ?_
    exact ⟨rfl, rfl⟩
  · skip
    refine ret_of Tryz.func182 rfl Tryz.ntmps182 rfl ?_
    refine c_seq (fun K1 hK1 => ?_)
    refine c_reg ?_ -- region 0 const.go:265
    refine wl (ro_assign rfl) ?_
    refine wl_nil (x_then (hK1 _ _ ?_))
    clear hK1 K1
    refine c_seq (fun K2 hK2 => ?_)
    refine c_seq (fun K3 hK3 => ?_)
    refine c_reg ?_ -- region 1 const.go:266
    refine wl (ro_move rfl) ?_
    refine wl_nil (x_then (hK3 _ _ ?_))
    clear hK3 K3
    refine c_block ?_
    refine forget [(3, _)] ⟨rfl, trivial⟩ (fun e => ?_)
    refine c_seq (fun K4 hK4 => ?_)
    refine c_reg ?_ -- region 2 const.go:267
    refine wl (ro_cmp rfl rfl rfl) ?_
    refine wl (ro_assign rfl) ?_
    refine wl_nil (x_then (hK4 _ _ ?_))
    clear hK4 K4
    refine wc_condF rfl ?_
    refine c_seq (fun K5 hK5 => ?_)
    refine c_reg ?_ -- region 4 const.go:269
    refine wl (ro_cmp rfl rfl rfl) ?_
    refine wl (ro_assign rfl) ?_
    refine wl_nil (x_then (hK5 _ _ ?_))
    clear hK5 K5
    refine wc_condF rfl ?_
    refine c_seq (fun K6 hK6 => ?_)
    refine c_reg ?_ -- region 6 const.go:271
    refine wl (ro_cmp rfl rfl rfl) ?_
    refine wl (ro_assign rfl) ?_
    refine wl_nil (x_then (hK6 _ _ ?_))
    clear hK6 K6
    refine wc_condF rfl ?_
    refine c_seq (fun K7 hK7 => ?_)
    refine c_reg ?_ -- region 8 const.go:273
    refine wl (ro_cmp rfl rfl rfl) ?_
    refine wl (ro_assign rfl) ?_
    refine wl_nil (x_then (hK7 _ _ ?_))
    clear hK7 K7
    refine wc_condF rfl ?_
    refine c_seq (fun K8 hK8 => ?_)
    refine c_reg ?_ -- region 10 const.go:275
    refine wl (ro_cmp rfl rfl rfl) ?_
    refine wl (ro_assign rfl) ?_
    refine wl_nil (x_then (hK8 _ _ ?_))
    clear hK8 K8
    refine wc_condF rfl ?_
    refine c_seq (fun K9 hK9 => ?_)
    refine c_reg ?_ -- region 12 const.go:277
    refine wl (ro_cmp rfl rfl rfl) ?_
    refine wl (ro_assign rfl) ?_
    refine wl_nil (x_then (hK9 _ _ ?_))
    clear hK9 K9
    refine wc_condF rfl ?_
    refine c_seq (fun K10 hK10 => ?_)
    refine c_reg ?_ -- region 14 const.go:279
    refine wl (ro_cmp rfl rfl rfl) ?_
    refine wl (ro_assign rfl) ?_
    refine wl_nil (x_then (hK10 _ _ ?_))
    clear hK10 K10
    refine wc_condF rfl ?_
    refine c_seq (fun K11 hK11 => ?_)
    refine c_reg ?_ -- region 16 const.go:281
    refine wl (ro_cmp rfl rfl rfl) ?_
    refine wl (ro_assign rfl) ?_
    refine wl_nil (x_then (hK11 _ _ ?_))
    clear hK11 K11
    refine wc_condF rfl ?_
    refine c_seq (fun K12 hK12 => ?_)
    refine c_reg ?_ -- region 18 const.go:283
    refine wl (ro_cmp rfl rfl rfl) ?_
    refine wl (ro_assign rfl) ?_
    refine wl_nil (x_then (hK12 _ _ ?_))
    clear hK12 K12
    refine wc_condT rfl ?_
    refine c_seq (fun K13 hK13 => ?_)
    refine c_reg ?_ -- region 19 const.go:284
    refine wl (ro_assign rfl) ?_
    refine wl_nil (x_then (hK13 _ _ ?_))
    clear hK13 K13
    refine c_ret (x_blkR (x_thenR ?_))
    refine bp_ret Tryz.results182 rfl ?_
    exact ⟨rfl, rfl⟩
  · skip
    refine ret_of Tryz.func182 rfl Tryz.ntmps182 rfl ?_
    refine c_seq (fun K1 hK1 => ?_)
    refine c_reg ?_ -- region 0 const.go:265
    refine wl (ro_assign rfl) ?_
    refine wl_nil (x_then (hK1 _ _ ?_))
    clear hK1 K1
    refine c_seq (fun K2 hK2 => ?_)
    refine c_seq (fun K3 hK3 => ?_)
    refine c_reg ?_ -- region 1 const.go:266
    refine wl (ro_move rfl) ?_
    refine wl_nil (x_then (hK3 _ _ ?_))
    clear hK3 K3
    refine c_block ?_
    refine forget [(3, _)] ⟨rfl, trivial⟩ (fun e => ?_)
    refine c_seq (fun K4 hK4 => ?_)
    refine c_reg ?_ -- region 2 const.go:267
    refine wl (ro_cmp rfl rfl rfl) ?_
    refine wl (ro_assign rfl) ?_
    refine wl_nil (x_then (hK4 _ _ ?_))
    clear hK4 K4
    refine wc_condF rfl ?_
    refine c_seq (fun K5 hK5 => ?_)
    refine c_reg ?_ -- region 4 const.go:269
    refine wl (ro_cmp rfl rfl rfl) ?_
    refine wl (ro_assign rfl) ?_
    refine wl_nil (x_then (hK5 _ _ ?_))
    clear hK5 K5
    refine wc_condF rfl ?_
    refine c_seq (fun K6 hK6 => ?_)
    refine c_reg ?_ -- region 6 const.go:271
    refine wl (ro_cmp rfl rfl rfl) ?_
    refine wl (ro_assign rfl) ?_
    refine wl_nil (x_then (hK6 _ _ ?_))
    clear hK6 K6
    refine wc_condF rfl ?_
    refine c_seq (fun K7 hK7 => ?_)
    refine c_reg ?_ -- region 8 const.go:273
    refine wl (ro_cmp rfl rfl rfl) ?_
    refine wl (ro_assign rfl) ?_
    refine wl_nil (x_then (hK7 _ _ ?_))
    clear hK7 K7
    refine wc_condF rfl ?_
    refine c_seq (fun K8 hK8 => ?_)
    refine c_reg ?_ -- region 10 const.go:275
    refine wl (ro_cmp rfl rfl rfl) ?_
    refine wl (ro_assign rfl) ?_
    refine wl_nil (x_then (hK8 _ _ ?_))
    clear hK8 K8
    refine wc_condF rfl ?_
    refine c_seq (fun K9 hK9 => ?_)
    refine c_reg ?_ -- region 12 const.go:277
    refine wl (ro_cmp rfl rfl rfl) ?_
    refine wl (ro_assign rfl) ?_
    refine wl_nil (x_then (hK9 _ _ ?_))
    clear hK9 K9
    refine wc_condF rfl ?_
    refine c_seq (fun K10 hK10 => ?_)
    refine c_reg ?_ -- region 14 const.go:279
    refine wl (ro_cmp rfl rfl rfl) ?_
    refine wl (ro_assign rfl) ?_
    refine wl_nil (x_then (hK10 _ _ ?_))
    clear hK10 K10
    refine wc_condF rfl ?_
    refine c_seq (fun K11 hK11 => ?_)
    refine c_reg ?_ -- region 16 const.go:281
    refine wl (ro_cmp rfl rfl rfl) ?_
    refine wl (ro_assign rfl) ?_
    refine wl_nil (x_then (hK11 _ _ ?_))
    clear hK11 K11
    refine wc_condF rfl ?_
    refine c_seq (fun K12 hK12 => ?_)
    refine c_reg ?_ -- region 18 const.go:283
    refine wl (ro_cmp rfl rfl rfl) ?_
    refine wl (ro_assign rfl) ?_
    refine wl_nil (x_then (hK12 _ _ ?_))
    clear hK12 K12
    refine wc_condF rfl ?_
    refine c_seq (fun K13 hK13 => ?_)
    refine c_reg ?_ -- region 20 const.go:285
    refine wl (ro_cmp rfl rfl rfl) ?_
    refine wl (ro_assign rfl) ?_
    refine wl_nil (x_then (hK13 _ _ ?_))
    clear hK13 K13
    refine wc_condT rfl ?_
    refine c_seq (fun K14 hK14 => ?_)
    refine c_reg ?_ -- region 21 const.go:286
    refine wl (ro_assign rfl) ?_
    refine wl_nil (x_then (hK14 _ _ ?_))
    clear hK14 K14
    refine c_ret (x_blkR (x_thenR ?_))
    refine bp_ret Tryz.results182 rfl ?_
    exact ⟨rfl, rfl⟩

theorem aut_cp {q : Nat} {c : UInt8} (h : aut q c = 2) : cp c = true := by
  unfold aut at h
  repeat' split at h
  all_goals first | assumption | omega
theorem aut_dg {q : Nat} {c : UInt8} (h : aut q c = 4 ∨ aut q c = 5) : dg c = true := by
  unfold aut at h
  repeat' split at h
  all_goals first
    | assumption
    | omega
    | (have := d1_iff.1 (by assumption); exact dg_iff.2 (by omega))
theorem autR_no {q : Nat} {c : UInt8} {r : Rf} (h : q = 0 ∨ q = 6) : autR q c r = r := by rcases h with rfl | rfl <;> rfl
theorem rowB0 : rowB 0 zR := ⟨by decide, fun _ => rfl, fun h => by omega, fun h => by omega, by decide⟩

set_option maxHeartbeats 2000000 in
theorem word153 {w : World} {s : List UInt8} {i : Nat} (hi : i ≤ s.length) (hs : s.length ≤ 40) : Ret Tryz.prog 153 [S s, i64c i] w (fun v w' => v = .agg (tkc i (i + ((s.drop i).takeWhile wy).length) (wordT ((s.drop i).takeWhile wy))).toArray ∧ Fram none' w w') := by
  have hF : Fram none' w w := Fram.refl _ _
  generalize hD : (s.drop i).takeWhile wy = D
  have hDl : D.length ≤ s.length - i := by rw [← hD, ← List.length_drop]; exact tw_le _ _
  have hDt : (s.drop i).take (i + D.length - i) = D := by
    rw [show i + D.length - i = D.length by omega, ← hD]
    exact (List.prefix_iff_eq_take.1 (List.takeWhile_prefix wy)).symm
  have hrun := aut_ok D
  refine ret_of Tryz.func153 rfl Tryz.ntmps153 rfl ?_
  refine c_seq (fun K1 hK1 => ?_)
  refine c_reg ?_ -- region 0 scan.go:97
  refine wl_new (ze_189) (fun rb w1 hbrb hR F1 => ?_)
  have hbsrb := Nat.le_trans hF.size hbrb
  replace hF := hF.thenDrew.thenN F1
  refine wl_nil (x_then (hK1 _ _ ?_))
  clear hK1 K1
  refine forget [(0, _), (1, _), (4, _)] ⟨rfl, rfl, rfl, trivial⟩ (fun e => ?_)
  refine c_seq (fun K2 hK2 => ?_)
  refine c_reg ?_ -- region 1 scan.go:98
  refine wl (ro_move rfl) ?_
  refine wl (ro_move rfl) ?_
  refine wl (ro_build rfl bld_189_0_1_2) ?_
  refine wl_new (ze_189) (fun tb w2 hbtb hT F2 => ?_)
  have hbstb := Nat.le_trans hF.size hbtb
  have hnerbtb : rb < tb := Nat.lt_of_lt_of_le hR.lt hbtb
  replace hF := hF.thenDrew.thenN F2
  replace hR := F2.blkN hR
  refine wl_puta rfl rfl ((tkc_cells i i ⟨4, 0, 0, zR⟩)) sz_189 (rfl) hT ((by simp)) (rfl) (fun w3 hT F3 => ?_)
  replace hF := hF.thenDrew.thenO F3 (by first | exact .inr (by omega) | exact .inl rfl | exact .inl (by assumption))
  replace hR := F3.blkO hR (by omega)
  refine wl_nil (x_then (hK2 _ _ ?_))
  clear hK2 K2
  refine forget [(0, _), (1, _), (4, _), (5, _)] ⟨rfl, rfl, rfl, rfl, trivial⟩ (fun e => ?_)
  refine c_seq (fun K3 hK3 => ?_)
  refine c_reg ?_ -- region 2 scan.go:99
  refine wl (ro_assign rfl) ?_
  refine wl_nil (x_then (hK3 _ _ ?_))
  clear hK3 K3
  refine forget [(0, _), (1, _), (4, _), (5, _), (6, _)] ⟨rfl, rfl, rfl, rfl, rfl, trivial⟩ (fun e => ?_)
  refine c_seq (fun K4 hK4 => ?_)
  refine c_block ?_
  -- loop@r3: live slots [0, 1, 4, 5, 6]
  refine c_loopG (fun m a' w' => ∃ (k q : Nat) (r : Rf), m = D.length - k ∧ k ≤ D.length ∧ autF 0 zR (D.take k) = (q, r) ∧ Blk w'.heap rb [i64c 0, i64c 0, i64c 0, i64c 0, i64c 0, icv 0, icv 0, .bool false, .bool false] 189 ∧ Blk w'.heap tb (tkc i (i + k) ⟨4, 0, 0, r⟩) 189 ∧ Fram none' w w' ∧ ∃ e, a' = Fr 112 (upds e [(0, S s), (1, i64c i), (4, ptr rb), (5, ptr tb), (6, i64c q)]) []) D.length ⟨0, 0, zR, rfl, by omega, rfl, hR, hT, hF, kp _ ⟨rfl, rfl, rfl, rfl, rfl, trivial⟩⟩ ?_
  clear hR hT hF
  rintro m a' w1 ⟨k, q, r, rfl, hk, hau, hR, hT, hF, e, rfl⟩
  have hsz := hF.size
  have hro := autF_row (D.take k) 0 zR (by omega) rowB0
  rw [hau] at hro
  obtain ⟨⟨hr0, hr1, hr2, hr3, hr4⟩, hq6⟩ := hro
  simp only at hr0 hr1 hr2 hr3 hr4 hq6
  refine c_seq (fun K5 hK5 => ?_)
  refine c_seq (fun K6 hK6 => ?_)
  have hcase : (k < D.length ∧ ∃ c, s[i + k]? = some c ∧ wy c = true ∧ D[k]? = some c) ∨ (k = D.length ∧ ∃ c, s[i + k]? = some c ∧ wy c = false) ∨ (k = D.length ∧ i + k = s.length) := by
    rcases Nat.lt_or_ge k D.length with h | h
    · left
      obtain ⟨c, h1, h2, h3⟩ := tw_lt (f := wy) (u := s.drop i) (k := k) (by rw [hD]; exact h)
      rw [List.getElem?_drop] at h1
      rw [hD] at h3
      exact ⟨h, c, h1, h2, h3⟩
    · right
      have hkD : k = D.length := by omega
      cases hc : s[i + k]? with
      | none => right; exact ⟨hkD, by have := List.getElem?_eq_none_iff.1 hc; omega⟩
      | some c =>
        left
        exact ⟨hkD, c, rfl, tw_end (f := wy) (u := s.drop i) (by rw [hD, ← hkD, List.getElem?_drop]; exact hc)⟩
  rcases hcase with ⟨hlt, c, hc, hdc, hDk⟩ | ⟨hkD, c, hc, hdc⟩ | ⟨hkD, hend⟩
  · skip
    have hil : i + k < s.length := (List.getElem?_eq_some_iff.1 hc).1
    have hnx : autF 0 zR (D.take (k + 1)) = (aut q c, autR (aut q c) c r) := by rw [take_snocG hDk, autF_snoc, hau]
    have hcp := aut_cp (q := q) (c := c)
    have hcd := aut_dg (q := q) (c := c)
    have hql := aut_le q c
    have hro2 := autF_row (D.take (k + 1)) 0 zR (by omega) rowB0
    rw [hnx] at hro2
    refine c_reg ?_ -- region 3 scan.go:100
    refine wl (ro_fieldAddr (k := 2) rfl fo_189_2) ?_
    refine wl (ro_loadB rfl sc_3 (hT) (rfl)) ?_
    refine wl (ro_move rfl) ?_
    refine wl (ro_lenS rfl st_9) ?_
    refine wl (ro_cmp (r := true) rfl rfl (congrArg some (decide_eq_true (by show ((i + k : Nat) : Int) < (s.length : Int); omega)))) ?_
    refine wl (ro_move rfl) ?_
    refine wlg_yes rfl (ro_move rfl) ?_
    refine wlg_yes rfl (ro_fieldAddr (k := 2) rfl fo_189_2) ?_
    refine wlg_yes rfl (ro_loadB rfl sc_3 (hT) (rfl)) ?_
    refine wlg_yes rfl (ro_indexS rfl rfl st_9 (rfl) (hc)) ?_
    refine wlg_call rfl rfl en_152 (wordy152) ?_
    rintro _ _ ⟨rfl, rfl⟩
    try rw [hdc]
    refine wl (ro_pick rfl rfl rfl) ?_
    refine wl_nil (x_then (hK6 _ _ ?_))
    clear hK6 K6
    refine wc_condT rfl ?_
    refine c_skip (x_then (hK5 _ _ ?_))
    clear hK5 K5
    refine c_block ?_
    refine forget [(0, _), (1, _), (4, _), (5, _), (6, _), (19, _), (20, _), (21, _), (22, _), (23, _)] ⟨rfl, rfl, rfl, rfl, rfl, rfl, rfl, rfl, rfl, rfl, trivial⟩ (fun e => ?_)
    refine c_seq (fun K7 hK7 => ?_)
    refine c_reg ?_ -- region 4 scan.go:101
    refine wl (ro_move rfl) ?_
    refine wl (ro_fieldAddr (k := 2) rfl fo_189_2) ?_
    refine wl (ro_loadB rfl sc_3 (hT) (rfl)) ?_
    refine wl (ro_indexS rfl rfl st_9 (rfl) (hc)) ?_
    refine wl (ro_assign rfl) ?_
    refine wl_nil (x_then (hK7 _ _ ?_))
    clear hK7 K7
    refine forget [(0, _), (1, _), (4, _), (5, _), (6, _), (7, _), (19, _), (20, _), (21, _), (22, _), (23, _)] ⟨rfl, rfl, rfl, rfl, rfl, rfl, rfl, rfl, rfl, rfl, rfl, trivial⟩ (fun e => ?_)
    refine c_seq (fun K8 hK8 => ?_)
    refine c_reg ?_ -- region 5 scan.go:102
    refine wl (ro_move rfl) ?_
    refine wl (ro_move rfl) ?_
    refine wl_call rfl en_192 (step192 hq6) ?_
    rintro _ _ ⟨rfl, rfl⟩
    generalize aut q c = q2 at hnx hcp hcd hql hro2 ⊢
    obtain ⟨⟨hs0, hs1, hs2, hs3, hs4⟩, -⟩ := hro2
    simp only at hs0 hs1 hs2 hs3 hs4
    refine wl (ro_assign rfl) ?_
    refine wl_nil (x_then (hK8 _ _ ?_))
    clear hK8 K8
    refine c_seq (fun K9 hK9 => ?_)
    refine c_seq (fun K10 hK10 => ?_)
    have hq2 : q2 = 1 ∨ q2 = 2 ∨ q2 = 3 ∨ q2 = 4 ∨ q2 = 5 ∨ (q2 = 0 ∨ q2 = 6) := by omega
    rcases hq2 with rfl | rfl | rfl | rfl | rfl | hq2
    · skip
      refine c_reg ?_ -- region 6 scan.go:103
      refine wl (ro_move rfl) ?_
      refine wl_nil (x_then (hK10 _ _ ?_))
      clear hK10 K10
      refine c_block ?_
      refine forget [(0, _), (1, _), (4, _), (5, _), (6, _), (7, _), (19, _), (20, _), (21, _), (22, _), (23, _), (32, _)] ⟨rfl, rfl, rfl, rfl, rfl, rfl, rfl, rfl, rfl, rfl, rfl, rfl, trivial⟩ (fun e => ?_)
      refine c_seq (fun K11 hK11 => ?_)
      refine c_reg ?_ -- region 7 scan.go:104
      refine wl (ro_cmp rfl rfl rfl) ?_
      refine wl (ro_assign rfl) ?_
      refine wl_nil (x_then (hK11 _ _ ?_))
      clear hK11 K11
      refine wc_condT rfl ?_
      refine c_reg ?_ -- region 8 scan.go:105
      refine wl (ro_fieldAddr (k := 5) rfl fo_189_5) ?_
      refine wl (ro_fieldAddr (k := 2) rfl fo_141_2) ?_
      refine wl_put rfl rfl rfl sz_4 hT ((by simp)) ((show _ = tkc i (i + k) ⟨4, 0, 0, autR 1 c r⟩ from rfl)) (fun w4 hT F4 => ?_)
      replace hF := hF.thenDrew.thenO F4 (by first | exact .inr (by omega) | exact .inl rfl | exact .inl (by assumption))
      replace hR := F4.blkO hR (by omega)
      refine wl_nil (x_blk (x_then (hK9 _ _ ?_)))
      clear hK9 K9
      refine c_reg ?_ -- region 16 scan.go:113
      refine wl (ro_fieldAddr (k := 2) rfl fo_189_2) ?_
      refine wl (ro_loadB rfl sc_3 (hT) (rfl)) ?_
      refine wl (ro_arith (r := ((i + (k + 1) : Nat) : Int)) rfl rfl (congrArg some (by show ((i + k : Nat) : Int) + 1 = ((i + (k + 1) : Nat) : Int); omega)) (Go.IntWalk.i64_in _ (by omega))) ?_
      refine wl (ro_fieldAddr (k := 2) rfl fo_189_2) ?_
      refine wl_put rfl rfl rfl sz_3 hT ((by simp)) ((show _ = tkc i (i + (k + 1)) ⟨4, 0, 0, autR 1 c r⟩ from rfl)) (fun w5 hT F5 => ?_)
      replace hF := hF.thenDrew.thenO F5 (by first | exact .inr (by omega) | exact .inl rfl | exact .inl (by assumption))
      replace hR := F5.blkO hR (by omega)
      refine wl_nil (x_blk (x_then ?_))
      exact ⟨D.length - (k + 1), by omega, k + 1, _, _, rfl, by omega, hnx, hR, hT, hF, kp _ ⟨rfl, rfl, rfl, rfl, rfl, trivial⟩⟩
    · skip
      have hc2 := cp_iff.1 (hcp rfl)
      refine c_reg ?_ -- region 6 scan.go:103
      refine wl (ro_move rfl) ?_
      refine wl_nil (x_then (hK10 _ _ ?_))
      clear hK10 K10
      refine c_block ?_
      refine forget [(0, _), (1, _), (4, _), (5, _), (6, _), (7, _), (19, _), (20, _), (21, _), (22, _), (23, _), (32, _)] ⟨rfl, rfl, rfl, rfl, rfl, rfl, rfl, rfl, rfl, rfl, rfl, rfl, trivial⟩ (fun e => ?_)
      refine c_seq (fun K12 hK12 => ?_)
      refine c_reg ?_ -- region 7 scan.go:104
      refine wl (ro_cmp rfl rfl rfl) ?_
      refine wl (ro_assign rfl) ?_
      refine wl_nil (x_then (hK12 _ _ ?_))
      clear hK12 K12
      refine wc_condF rfl ?_
      refine c_seq (fun K13 hK13 => ?_)
      refine c_reg ?_ -- region 9 scan.go:106
      refine wl (ro_cmp rfl rfl rfl) ?_
      refine wl (ro_assign rfl) ?_
      refine wl_nil (x_then (hK13 _ _ ?_))
      clear hK13 K13
      refine wc_condT rfl ?_
      refine c_reg ?_ -- region 10 scan.go:107
      refine wl (ro_move rfl) ?_
      refine wl (ro_arith (r := (c.toNat : Int) - 65) rfl rfl rfl (Go.IntWalk.u8_in _ (by omega))) ?_
      refine wl (ro_conv rfl sc_5 in_3 (Go.IntWalk.i64_in _ (by omega))) ?_
      refine wl (ro_fieldAddr (k := 5) rfl fo_189_5) ?_
      refine wl (ro_fieldAddr (k := 0) rfl fo_141_0) ?_
      refine wl_put rfl rfl rfl sz_3 hT ((by simp)) ((show _ = tkc i (i + k) ⟨4, 0, 0, autR 2 c r⟩ from rfl)) (fun w6 hT F6 => ?_)
      replace hF := hF.thenDrew.thenO F6 (by first | exact .inr (by omega) | exact .inl rfl | exact .inl (by assumption))
      replace hR := F6.blkO hR (by omega)
      refine wl_nil (x_blk (x_then (hK9 _ _ ?_)))
      clear hK9 K9
      refine c_reg ?_ -- region 16 scan.go:113
      refine wl (ro_fieldAddr (k := 2) rfl fo_189_2) ?_
      refine wl (ro_loadB rfl sc_3 (hT) (rfl)) ?_
      refine wl (ro_arith (r := ((i + (k + 1) : Nat) : Int)) rfl rfl (congrArg some (by show ((i + k : Nat) : Int) + 1 = ((i + (k + 1) : Nat) : Int); omega)) (Go.IntWalk.i64_in _ (by omega))) ?_
      refine wl (ro_fieldAddr (k := 2) rfl fo_189_2) ?_
      refine wl_put rfl rfl rfl sz_3 hT ((by simp)) ((show _ = tkc i (i + (k + 1)) ⟨4, 0, 0, autR 2 c r⟩ from rfl)) (fun w7 hT F7 => ?_)
      replace hF := hF.thenDrew.thenO F7 (by first | exact .inr (by omega) | exact .inl rfl | exact .inl (by assumption))
      replace hR := F7.blkO hR (by omega)
      refine wl_nil (x_blk (x_then ?_))
      exact ⟨D.length - (k + 1), by omega, k + 1, _, _, rfl, by omega, hnx, hR, hT, hF, kp _ ⟨rfl, rfl, rfl, rfl, rfl, trivial⟩⟩
    · skip
      refine c_reg ?_ -- region 6 scan.go:103
      refine wl (ro_move rfl) ?_
      refine wl_nil (x_then (hK10 _ _ ?_))
      clear hK10 K10
      refine c_block ?_
      refine forget [(0, _), (1, _), (4, _), (5, _), (6, _), (7, _), (19, _), (20, _), (21, _), (22, _), (23, _), (32, _)] ⟨rfl, rfl, rfl, rfl, rfl, rfl, rfl, rfl, rfl, rfl, rfl, rfl, trivial⟩ (fun e => ?_)
      refine c_seq (fun K14 hK14 => ?_)
      refine c_reg ?_ -- region 7 scan.go:104
      refine wl (ro_cmp rfl rfl rfl) ?_
      refine wl (ro_assign rfl) ?_
      refine wl_nil (x_then (hK14 _ _ ?_))
      clear hK14 K14
      refine wc_condF rfl ?_
      refine c_seq (fun K15 hK15 => ?_)
      refine c_reg ?_ -- region 9 scan.go:106
      refine wl (ro_cmp rfl rfl rfl) ?_
      refine wl (ro_assign rfl) ?_
      refine wl_nil (x_then (hK15 _ _ ?_))
      clear hK15 K15
      refine wc_condF rfl ?_
      refine c_seq (fun K16 hK16 => ?_)
      refine c_reg ?_ -- region 11 scan.go:108
      refine wl (ro_cmp rfl rfl rfl) ?_
      refine wl (ro_assign rfl) ?_
      refine wl_nil (x_then (hK16 _ _ ?_))
      clear hK16 K16
      refine wc_condT rfl ?_
      refine c_reg ?_ -- region 12 scan.go:109
      refine wl (ro_fieldAddr (k := 5) rfl fo_189_5) ?_
      refine wl (ro_fieldAddr (k := 3) rfl fo_141_3) ?_
      refine wl_put rfl rfl rfl sz_4 hT ((by simp)) ((show _ = tkc i (i + k) ⟨4, 0, 0, autR 3 c r⟩ from rfl)) (fun w8 hT F8 => ?_)
      replace hF := hF.thenDrew.thenO F8 (by first | exact .inr (by omega) | exact .inl rfl | exact .inl (by assumption))
      replace hR := F8.blkO hR (by omega)
      refine wl_nil (x_blk (x_then (hK9 _ _ ?_)))
      clear hK9 K9
      refine c_reg ?_ -- region 16 scan.go:113
      refine wl (ro_fieldAddr (k := 2) rfl fo_189_2) ?_
      refine wl (ro_loadB rfl sc_3 (hT) (rfl)) ?_
      refine wl (ro_arith (r := ((i + (k + 1) : Nat) : Int)) rfl rfl (congrArg some (by show ((i + k : Nat) : Int) + 1 = ((i + (k + 1) : Nat) : Int); omega)) (Go.IntWalk.i64_in _ (by omega))) ?_
      refine wl (ro_fieldAddr (k := 2) rfl fo_189_2) ?_
      refine wl_put rfl rfl rfl sz_3 hT ((by simp)) ((show _ = tkc i (i + (k + 1)) ⟨4, 0, 0, autR 3 c r⟩ from rfl)) (fun w9 hT F9 => ?_)
      replace hF := hF.thenDrew.thenO F9 (by first | exact .inr (by omega) | exact .inl rfl | exact .inl (by assumption))
      replace hR := F9.blkO hR (by omega)
      refine wl_nil (x_blk (x_then ?_))
      exact ⟨D.length - (k + 1), by omega, k + 1, _, _, rfl, by omega, hnx, hR, hT, hF, kp _ ⟨rfl, rfl, rfl, rfl, rfl, trivial⟩⟩
    · skip
      have hc2 := dg_iff.1 (hcd (.inl rfl))
      refine c_reg ?_ -- region 6 scan.go:103
      refine wl (ro_move rfl) ?_
      refine wl_nil (x_then (hK10 _ _ ?_))
      clear hK10 K10
      refine c_block ?_
      refine forget [(0, _), (1, _), (4, _), (5, _), (6, _), (7, _), (19, _), (20, _), (21, _), (22, _), (23, _), (32, _)] ⟨rfl, rfl, rfl, rfl, rfl, rfl, rfl, rfl, rfl, rfl, rfl, rfl, trivial⟩ (fun e => ?_)
      refine c_seq (fun K17 hK17 => ?_)
      refine c_reg ?_ -- region 7 scan.go:104
      refine wl (ro_cmp rfl rfl rfl) ?_
      refine wl (ro_assign rfl) ?_
      refine wl_nil (x_then (hK17 _ _ ?_))
      clear hK17 K17
      refine wc_condF rfl ?_
      refine c_seq (fun K18 hK18 => ?_)
      refine c_reg ?_ -- region 9 scan.go:106
      refine wl (ro_cmp rfl rfl rfl) ?_
      refine wl (ro_assign rfl) ?_
      refine wl_nil (x_then (hK18 _ _ ?_))
      clear hK18 K18
      refine wc_condF rfl ?_
      refine c_seq (fun K19 hK19 => ?_)
      refine c_reg ?_ -- region 11 scan.go:108
      refine wl (ro_cmp rfl rfl rfl) ?_
      refine wl (ro_assign rfl) ?_
      refine wl_nil (x_then (hK19 _ _ ?_))
      clear hK19 K19
      refine wc_condF rfl ?_
      refine c_seq (fun K20 hK20 => ?_)
      refine c_seq (fun K21 hK21 => ?_)
      refine c_reg ?_ -- region 13 scan.go:110
      refine wl (ro_cmp rfl rfl rfl) ?_
      refine wl (ro_assign rfl) ?_
      refine wl_nil (x_then (hK21 _ _ ?_))
      clear hK21 K21
      refine wc_condT rfl ?_
      refine c_skip (x_then (hK20 _ _ ?_))
      clear hK20 K20
      refine wc_condT rfl ?_
      refine c_reg ?_ -- region 15 scan.go:111
      refine wl (ro_fieldAddr (k := 5) rfl fo_189_5) ?_
      refine wl (ro_fieldAddr (k := 1) rfl fo_141_1) ?_
      refine wl (ro_loadB rfl sc_3 (hT) (rfl)) ?_
      refine wl (ro_arith (r := r.r * 10) rfl rfl rfl (Go.IntWalk.i64_in _ (by omega))) ?_
      refine wl (ro_move rfl) ?_
      refine wl (ro_arith (r := ((dv c : Nat) : Int)) rfl rfl (congrArg some (by unfold dv; show ((c.toNat : Int)) - 48 = _; omega)) (Go.IntWalk.u8_in _ (by unfold dv; omega))) ?_
      refine wl (ro_conv rfl sc_5 in_3 (Go.IntWalk.i64_in _ (by unfold dv; omega))) ?_
      refine wl (ro_arith (r := r.r * 10 + (dv c : Int)) rfl rfl rfl (Go.IntWalk.i64_in _ (by have := dv_le c; omega))) ?_
      refine wl (ro_fieldAddr (k := 5) rfl fo_189_5) ?_
      refine wl (ro_fieldAddr (k := 1) rfl fo_141_1) ?_
      refine wl_put rfl rfl rfl sz_3 hT ((by simp)) ((show _ = tkc i (i + k) ⟨4, 0, 0, autR 4 c r⟩ from rfl)) (fun w10 hT F10 => ?_)
      replace hF := hF.thenDrew.thenO F10 (by first | exact .inr (by omega) | exact .inl rfl | exact .inl (by assumption))
      replace hR := F10.blkO hR (by omega)
      refine wl_nil (x_blk (x_then (hK9 _ _ ?_)))
      clear hK9 K9
      refine c_reg ?_ -- region 16 scan.go:113
      refine wl (ro_fieldAddr (k := 2) rfl fo_189_2) ?_
      refine wl (ro_loadB rfl sc_3 (hT) (rfl)) ?_
      refine wl (ro_arith (r := ((i + (k + 1) : Nat) : Int)) rfl rfl (congrArg some (by show ((i + k : Nat) : Int) + 1 = ((i + (k + 1) : Nat) : Int); omega)) (Go.IntWalk.i64_in _ (by omega))) ?_
      refine wl (ro_fieldAddr (k := 2) rfl fo_189_2) ?_
      refine wl_put rfl rfl rfl sz_3 hT ((by simp)) ((show _ = tkc i (i + (k + 1)) ⟨4, 0, 0, autR 4 c r⟩ from rfl)) (fun w11 hT F11 => ?_)
      replace hF := hF.thenDrew.thenO F11 (by first | exact .inr (by omega) | exact .inl rfl | exact .inl (by assumption))
      replace hR := F11.blkO hR (by omega)
      refine wl_nil (x_blk (x_then ?_))
      exact ⟨D.length - (k + 1), by omega, k + 1, _, _, rfl, by omega, hnx, hR, hT, hF, kp _ ⟨rfl, rfl, rfl, rfl, rfl, trivial⟩⟩
    · skip
      have hc2 := dg_iff.1 (hcd (.inr rfl))
      refine c_reg ?_ -- region 6 scan.go:103
      refine wl (ro_move rfl) ?_
      refine wl_nil (x_then (hK10 _ _ ?_))
      clear hK10 K10
      refine c_block ?_
      refine forget [(0, _), (1, _), (4, _), (5, _), (6, _), (7, _), (19, _), (20, _), (21, _), (22, _), (23, _), (32, _)] ⟨rfl, rfl, rfl, rfl, rfl, rfl, rfl, rfl, rfl, rfl, rfl, rfl, trivial⟩ (fun e => ?_)
      refine c_seq (fun K22 hK22 => ?_)
      refine c_reg ?_ -- region 7 scan.go:104
      refine wl (ro_cmp rfl rfl rfl) ?_
      refine wl (ro_assign rfl) ?_
      refine wl_nil (x_then (hK22 _ _ ?_))
      clear hK22 K22
      refine wc_condF rfl ?_
      refine c_seq (fun K23 hK23 => ?_)
      refine c_reg ?_ -- region 9 scan.go:106
      refine wl (ro_cmp rfl rfl rfl) ?_
      refine wl (ro_assign rfl) ?_
      refine wl_nil (x_then (hK23 _ _ ?_))
      clear hK23 K23
      refine wc_condF rfl ?_
      refine c_seq (fun K24 hK24 => ?_)
      refine c_reg ?_ -- region 11 scan.go:108
      refine wl (ro_cmp rfl rfl rfl) ?_
      refine wl (ro_assign rfl) ?_
      refine wl_nil (x_then (hK24 _ _ ?_))
      clear hK24 K24
      refine wc_condF rfl ?_
      refine c_seq (fun K25 hK25 => ?_)
      refine c_seq (fun K26 hK26 => ?_)
      refine c_reg ?_ -- region 13 scan.go:110
      refine wl (ro_cmp rfl rfl rfl) ?_
      refine wl (ro_assign rfl) ?_
      refine wl_nil (x_then (hK26 _ _ ?_))
      clear hK26 K26
      refine wc_condF rfl ?_
      refine c_reg ?_ -- region 14 scan.go:110
      refine wl (ro_cmp rfl rfl rfl) ?_
      refine wl (ro_assign rfl) ?_
      refine wl_nil (x_then (hK25 _ _ ?_))
      clear hK25 K25
      refine wc_condT rfl ?_
      refine c_reg ?_ -- region 15 scan.go:111
      refine wl (ro_fieldAddr (k := 5) rfl fo_189_5) ?_
      refine wl (ro_fieldAddr (k := 1) rfl fo_141_1) ?_
      refine wl (ro_loadB rfl sc_3 (hT) (rfl)) ?_
      refine wl (ro_arith (r := r.r * 10) rfl rfl rfl (Go.IntWalk.i64_in _ (by omega))) ?_
      refine wl (ro_move rfl) ?_
      refine wl (ro_arith (r := ((dv c : Nat) : Int)) rfl rfl (congrArg some (by unfold dv; show ((c.toNat : Int)) - 48 = _; omega)) (Go.IntWalk.u8_in _ (by unfold dv; omega))) ?_
      refine wl (ro_conv rfl sc_5 in_3 (Go.IntWalk.i64_in _ (by unfold dv; omega))) ?_
      refine wl (ro_arith (r := r.r * 10 + (dv c : Int)) rfl rfl rfl (Go.IntWalk.i64_in _ (by have := dv_le c; omega))) ?_
      refine wl (ro_fieldAddr (k := 5) rfl fo_189_5) ?_
      refine wl (ro_fieldAddr (k := 1) rfl fo_141_1) ?_
      refine wl_put rfl rfl rfl sz_3 hT ((by simp)) ((show _ = tkc i (i + k) ⟨4, 0, 0, autR 5 c r⟩ from rfl)) (fun w12 hT F12 => ?_)
      replace hF := hF.thenDrew.thenO F12 (by first | exact .inr (by omega) | exact .inl rfl | exact .inl (by assumption))
      replace hR := F12.blkO hR (by omega)
      refine wl_nil (x_blk (x_then (hK9 _ _ ?_)))
      clear hK9 K9
      refine c_reg ?_ -- region 16 scan.go:113
      refine wl (ro_fieldAddr (k := 2) rfl fo_189_2) ?_
      refine wl (ro_loadB rfl sc_3 (hT) (rfl)) ?_
      refine wl (ro_arith (r := ((i + (k + 1) : Nat) : Int)) rfl rfl (congrArg some (by show ((i + k : Nat) : Int) + 1 = ((i + (k + 1) : Nat) : Int); omega)) (Go.IntWalk.i64_in _ (by omega))) ?_
      refine wl (ro_fieldAddr (k := 2) rfl fo_189_2) ?_
      refine wl_put rfl rfl rfl sz_3 hT ((by simp)) ((show _ = tkc i (i + (k + 1)) ⟨4, 0, 0, autR 5 c r⟩ from rfl)) (fun w13 hT F13 => ?_)
      replace hF := hF.thenDrew.thenO F13 (by first | exact .inr (by omega) | exact .inl rfl | exact .inl (by assumption))
      replace hR := F13.blkO hR (by omega)
      refine wl_nil (x_blk (x_then ?_))
      exact ⟨D.length - (k + 1), by omega, k + 1, _, _, rfl, by omega, hnx, hR, hT, hF, kp _ ⟨rfl, rfl, rfl, rfl, rfl, trivial⟩⟩
    · skip
      rw [autR_no hq2] at hnx
      refine c_reg ?_ -- region 6 scan.go:103
      refine wl (ro_move rfl) ?_
      refine wl_nil (x_then (hK10 _ _ ?_))
      clear hK10 K10
      refine c_block ?_
      refine forget [(0, _), (1, _), (4, _), (5, _), (6, _), (7, _), (19, _), (20, _), (21, _), (22, _), (23, _), (32, _)] ⟨rfl, rfl, rfl, rfl, rfl, rfl, rfl, rfl, rfl, rfl, rfl, rfl, trivial⟩ (fun e => ?_)
      refine c_seq (fun K27 hK27 => ?_)
      refine c_reg ?_ -- region 7 scan.go:104
      refine wl (ro_cmp (r := false) rfl rfl (congrArg some ((beqc q2 1).trans (decide_eq_false (by omega))))) ?_
      refine wl (ro_assign rfl) ?_
      refine wl_nil (x_then (hK27 _ _ ?_))
      clear hK27 K27
      refine wc_condF rfl ?_
      refine c_seq (fun K28 hK28 => ?_)
      refine c_reg ?_ -- region 9 scan.go:106
      refine wl (ro_cmp (r := false) rfl rfl (congrArg some ((beqc q2 2).trans (decide_eq_false (by omega))))) ?_
      refine wl (ro_assign rfl) ?_
      refine wl_nil (x_then (hK28 _ _ ?_))
      clear hK28 K28
      refine wc_condF rfl ?_
      refine c_seq (fun K29 hK29 => ?_)
      refine c_reg ?_ -- region 11 scan.go:108
      refine wl (ro_cmp (r := false) rfl rfl (congrArg some ((beqc q2 3).trans (decide_eq_false (by omega))))) ?_
      refine wl (ro_assign rfl) ?_
      refine wl_nil (x_then (hK29 _ _ ?_))
      clear hK29 K29
      refine wc_condF rfl ?_
      refine c_seq (fun K30 hK30 => ?_)
      refine c_seq (fun K31 hK31 => ?_)
      refine c_reg ?_ -- region 13 scan.go:110
      refine wl (ro_cmp (r := false) rfl rfl (congrArg some ((beqc q2 4).trans (decide_eq_false (by omega))))) ?_
      refine wl (ro_assign rfl) ?_
      refine wl_nil (x_then (hK31 _ _ ?_))
      clear hK31 K31
      refine wc_condF rfl ?_
      refine c_reg ?_ -- region 14 scan.go:110
      refine wl (ro_cmp (r := false) rfl rfl (congrArg some ((beqc q2 5).trans (decide_eq_false (by omega))))) ?_
      refine wl (ro_assign rfl) ?_
      refine wl_nil (x_then (hK30 _ _ ?_))
      clear hK30 K30
      refine wc_condF rfl ?_
      refine c_skip (x_blk (x_then (hK9 _ _ ?_)))
      clear hK9 K9
      refine c_reg ?_ -- region 16 scan.go:113
      refine wl (ro_fieldAddr (k := 2) rfl fo_189_2) ?_
      refine wl (ro_loadB rfl sc_3 (hT) (rfl)) ?_
      refine wl (ro_arith (r := ((i + (k + 1) : Nat) : Int)) rfl rfl (congrArg some (by show ((i + k : Nat) : Int) + 1 = ((i + (k + 1) : Nat) : Int); omega)) (Go.IntWalk.i64_in _ (by omega))) ?_
      refine wl (ro_fieldAddr (k := 2) rfl fo_189_2) ?_
      refine wl_put rfl rfl rfl sz_3 hT ((by simp)) ((show _ = tkc i (i + (k + 1)) ⟨4, 0, 0, r⟩ from rfl)) (fun w14 hT F14 => ?_)
      replace hF := hF.thenDrew.thenO F14 (by first | exact .inr (by omega) | exact .inl rfl | exact .inl (by assumption))
      replace hR := F14.blkO hR (by omega)
      refine wl_nil (x_blk (x_then ?_))
      exact ⟨D.length - (k + 1), by omega, k + 1, _, _, rfl, by omega, hnx, hR, hT, hF, kp _ ⟨rfl, rfl, rfl, rfl, rfl, trivial⟩⟩
  · skip
    have hil : i + k < s.length := (List.getElem?_eq_some_iff.1 hc).1
    refine c_reg ?_ -- region 3 scan.go:100
    refine wl (ro_fieldAddr (k := 2) rfl fo_189_2) ?_
    refine wl (ro_loadB rfl sc_3 (hT) (rfl)) ?_
    refine wl (ro_move rfl) ?_
    refine wl (ro_lenS rfl st_9) ?_
    refine wl (ro_cmp (r := true) rfl rfl (congrArg some (decide_eq_true (by show ((i + k : Nat) : Int) < (s.length : Int); omega)))) ?_
    refine wl (ro_move rfl) ?_
    refine wlg_yes rfl (ro_move rfl) ?_
    refine wlg_yes rfl (ro_fieldAddr (k := 2) rfl fo_189_2) ?_
    refine wlg_yes rfl (ro_loadB rfl sc_3 (hT) (rfl)) ?_
    refine wlg_yes rfl (ro_indexS rfl rfl st_9 (rfl) (hc)) ?_
    refine wlg_call rfl rfl en_152 (wordy152) ?_
    rintro _ _ ⟨rfl, rfl⟩
    try rw [hdc]
    refine wl (ro_pick rfl rfl rfl) ?_
    refine wl_nil (x_then (hK6 _ _ ?_))
    clear hK6 K6
    refine wc_condF rfl ?_
    refine c_exit (x_thenX (x_thenX (x_blkX (x_then (hK4 _ _ ?_)))))
    clear hK5 K5 hK4 K4
    refine c_seq (fun K32 hK32 => ?_)
    refine c_seq (fun K33 hK33 => ?_)
    subst hkD
    rw [List.take_length] at hau
    rw [hau] at hrun
    have hcs : (∃ r', refOf D = some r' ∧ q = 4 ∧ r' = ⟨r.c, r.r - 1, r.ac, r.ar⟩) ∨ (∃ r', refOf D = some r' ∧ q = 5 ∧ r' = ⟨r.c, r.r - 1, r.ac, r.ar⟩) ∨ (refOf D = none ∧ q ≠ 4 ∧ q ≠ 5) := by
      cases hro : refOf D with
      | none => rw [hro] at hrun; exact .inr (.inr ⟨rfl, hrun⟩)
      | some r' =>
        rw [hro] at hrun
        obtain ⟨h | h, h'⟩ := hrun
        · exact .inl ⟨r', rfl, h, h'.symm⟩
        · exact .inr (.inl ⟨r', rfl, h, h'.symm⟩)
    rcases hcs with ⟨r', hro, rfl, hre⟩ | ⟨r', hro, rfl, hre⟩ | ⟨hro, hn4, hn5⟩
    · skip
      have hres : wordT D = ⟨4, 0, 0, r'⟩ := by unfold wordT; rw [hro]
      refine c_reg ?_ -- region 17 scan.go:115
      refine wl (ro_move rfl) ?_
      refine wl (ro_cmp rfl rfl rfl) ?_
      refine wl (ro_move rfl) ?_
      refine wlg_no rfl ?_
      refine wlg_no rfl ?_
      refine wl (ro_pick rfl rfl rfl) ?_
      refine wl_nil (x_then (hK33 _ _ ?_))
      clear hK33 K33
      refine wc_condT rfl ?_
      refine c_seq (fun K34 hK34 => ?_)
      refine c_reg ?_ -- region 18 scan.go:116
      refine wl (ro_fieldAddr (k := 5) rfl fo_189_5) ?_
      refine wl (ro_fieldAddr (k := 1) rfl fo_141_1) ?_
      refine wl (ro_loadB rfl sc_3 (hT) (rfl)) ?_
      refine wl (ro_arith (r := r.r - 1) rfl rfl rfl (Go.IntWalk.i64_in _ (by omega))) ?_
      refine wl (ro_fieldAddr (k := 5) rfl fo_189_5) ?_
      refine wl (ro_fieldAddr (k := 1) rfl fo_141_1) ?_
      refine wl_put rfl rfl rfl sz_3 hT ((by simp)) ((show _ = tkc i (i + D.length) ⟨4, 0, 0, ⟨r.c, r.r - 1, r.ac, r.ar⟩⟩ from rfl)) (fun w15 hT F15 => ?_)
      replace hF := hF.thenDrew.thenO F15 (by first | exact .inr (by omega) | exact .inl rfl | exact .inl (by assumption))
      replace hR := F15.blkO hR (by omega)
      refine wl_nil (x_then (hK34 _ _ ?_))
      clear hK34 K34
      refine forget [(4, _), (5, _)] ⟨rfl, rfl, trivial⟩ (fun e => ?_)
      refine c_seq (fun K35 hK35 => ?_)
      refine c_reg ?_ -- region 19 scan.go:117
      refine wl (ro_loadAggB rfl ag_189 (hT) (rfl) (rfl)) ?_
      refine wl_puta rfl rfl ((tkc_cells _ _ _)) sz_189 (rfl) hR ((by simp)) (rfl) (fun w16 hR F16 => ?_)
      replace hF := hF.thenDrew.thenO F16 (by first | exact .inr (by omega) | exact .inl rfl | exact .inl (by assumption))
      replace hT := F16.blkO hT (by omega)
      refine wl_nil (x_then (hK35 _ _ ?_))
      clear hK35 K35
      refine c_ret (x_thenR ?_)
      refine bq_ret (res1 Tryz.results153 (rv_c rfl ag_189 (hR) rfl)) ?_
      rw [hres, hre]; exact ⟨rfl, hF⟩
    · skip
      have hres : wordT D = ⟨4, 0, 0, r'⟩ := by unfold wordT; rw [hro]
      refine c_reg ?_ -- region 17 scan.go:115
      refine wl (ro_move rfl) ?_
      refine wl (ro_cmp rfl rfl rfl) ?_
      refine wl (ro_move rfl) ?_
      refine wlg_yes rfl (ro_move rfl) ?_
      refine wlg_yes rfl (ro_cmp rfl rfl rfl) ?_
      refine wl (ro_pick rfl rfl rfl) ?_
      refine wl_nil (x_then (hK33 _ _ ?_))
      clear hK33 K33
      refine wc_condT rfl ?_
      refine c_seq (fun K36 hK36 => ?_)
      refine c_reg ?_ -- region 18 scan.go:116
      refine wl (ro_fieldAddr (k := 5) rfl fo_189_5) ?_
      refine wl (ro_fieldAddr (k := 1) rfl fo_141_1) ?_
      refine wl (ro_loadB rfl sc_3 (hT) (rfl)) ?_
      refine wl (ro_arith (r := r.r - 1) rfl rfl rfl (Go.IntWalk.i64_in _ (by omega))) ?_
      refine wl (ro_fieldAddr (k := 5) rfl fo_189_5) ?_
      refine wl (ro_fieldAddr (k := 1) rfl fo_141_1) ?_
      refine wl_put rfl rfl rfl sz_3 hT ((by simp)) ((show _ = tkc i (i + D.length) ⟨4, 0, 0, ⟨r.c, r.r - 1, r.ac, r.ar⟩⟩ from rfl)) (fun w17 hT F17 => ?_)
      replace hF := hF.thenDrew.thenO F17 (by first | exact .inr (by omega) | exact .inl rfl | exact .inl (by assumption))
      replace hR := F17.blkO hR (by omega)
      refine wl_nil (x_then (hK36 _ _ ?_))
      clear hK36 K36
      refine forget [(4, _), (5, _)] ⟨rfl, rfl, trivial⟩ (fun e => ?_)
      refine c_seq (fun K37 hK37 => ?_)
      refine c_reg ?_ -- region 19 scan.go:117
      refine wl (ro_loadAggB rfl ag_189 (hT) (rfl) (rfl)) ?_
      refine wl_puta rfl rfl ((tkc_cells _ _ _)) sz_189 (rfl) hR ((by simp)) (rfl) (fun w18 hR F18 => ?_)
      replace hF := hF.thenDrew.thenO F18 (by first | exact .inr (by omega) | exact .inl rfl | exact .inl (by assumption))
      replace hT := F18.blkO hT (by omega)
      refine wl_nil (x_then (hK37 _ _ ?_))
      clear hK37 K37
      refine c_ret (x_thenR ?_)
      refine bq_ret (res1 Tryz.results153 (rv_c rfl ag_189 (hR) rfl)) ?_
      rw [hres, hre]; exact ⟨rfl, hF⟩
    · skip
      have hres : wordT D = if D = wTRUE then ⟨2, 2, 1, zR⟩ else if D = wFALSE then ⟨2, 2, 0, zR⟩ else if fnOf D = 0 then ⟨3, 0, 5, zR⟩ else ⟨5, 0, fnOf D, zR⟩ := by unfold wordT; rw [hro]
      refine c_reg ?_ -- region 17 scan.go:115
      refine wl (ro_move rfl) ?_
      refine wl (ro_cmp (r := false) rfl rfl (congrArg some ((beqc q 4).trans (decide_eq_false hn4)))) ?_
      refine wl (ro_move rfl) ?_
      refine wlg_yes rfl (ro_move rfl) ?_
      refine wlg_yes rfl (ro_cmp (r := false) rfl rfl (congrArg some ((beqc q 5).trans (decide_eq_false hn5)))) ?_
      refine wl (ro_pick rfl rfl rfl) ?_
      refine wl_nil (x_then (hK33 _ _ ?_))
      clear hK33 K33
      refine wc_condF rfl ?_
      refine c_skip (x_then (hK32 _ _ ?_))
      clear hK32 K32
      refine forget [(0, _), (1, _), (4, _), (5, _)] ⟨rfl, rfl, rfl, rfl, trivial⟩ (fun e => ?_)
      refine c_seq (fun K38 hK38 => ?_)
      refine c_reg ?_ -- region 20 scan.go:119
      refine wl (ro_build rfl bld_141) ?_
      refine wl (ro_fieldAddr (k := 5) rfl fo_189_5) ?_
      refine wl_puta rfl rfl (by simp [Value.oneCell', i64c, u64c, u8c, ptr]) sz_141 (rfl) hT ((by simp)) ((show _ = tkc i (i + D.length) ⟨4, 0, 0, zR⟩ from rfl)) (fun w19 hT F19 => ?_)
      replace hF := hF.thenDrew.thenO F19 (by first | exact .inr (by omega) | exact .inl rfl | exact .inl (by assumption))
      replace hR := F19.blkO hR (by omega)
      refine wl_nil (x_then (hK38 _ _ ?_))
      clear hK38 K38
      refine forget [(0, _), (1, _), (4, _), (5, _)] ⟨rfl, rfl, rfl, rfl, trivial⟩ (fun e => ?_)
      refine c_seq (fun K39 hK39 => ?_)
      refine c_reg ?_ -- region 21 scan.go:120
      refine wl (ro_move rfl) ?_
      refine wl (ro_move rfl) ?_
      refine wl (ro_fieldAddr (k := 2) rfl fo_189_2) ?_
      refine wl (ro_loadB rfl sc_3 (hT) (rfl)) ?_
      refine wl (ro_sliceSLH (l := i) (h := i + D.length) rfl rfl rfl st_9 rfl rfl (by omega) (by omega)) ?_
      refine wl (ro_assign rfl) ?_
      refine wl_nil (x_then (hK39 _ _ ?_))
      clear hK39 K39
      refine c_seq (fun K40 hK40 => ?_)
      refine c_seq (fun K41 hK41 => ?_)
      have hcw : D = wTRUE ∨ (D ≠ wTRUE ∧ D = wFALSE) ∨ (D ≠ wTRUE ∧ D ≠ wFALSE) := by
        by_cases h1 : D = wTRUE
        · exact .inl h1
        · by_cases h2 : D = wFALSE
          · exact .inr (.inl ⟨h1, h2⟩)
          · exact .inr (.inr ⟨h1, h2⟩)
      rcases hcw with hw1 | ⟨hw1, hw2⟩ | ⟨hw1, hw2⟩
      · skip
        rw [if_pos hw1] at hres
        have hln : D.length = 4 := by rw [hw1]; rfl
        refine c_reg ?_ -- region 22 scan.go:121
        refine wl (ro_move rfl) ?_
        refine wl (ro_eqS (l := (s.drop i).take (i + D.length - i)) (m := wTRUE) (r := true) rfl rfl (congrArg some (by rw [hDt]; simpa using hw1))) ?_
        refine wl (ro_move rfl) ?_
        refine wlg_no rfl ?_
        refine wlg_no rfl ?_
        refine wl (ro_pick rfl rfl rfl) ?_
        refine wl_nil (x_then (hK41 _ _ ?_))
        clear hK41 K41
        refine wc_condT rfl ?_
        refine c_seq (fun K42 hK42 => ?_)
        refine c_reg ?_ -- region 23 scan.go:122
        refine wl (ro_move rfl) ?_
        refine wl (ro_lenS rfl st_9) ?_
        refine wl (ro_arith (r := ((1 : Nat) : Int)) rfl rfl (congrArg some (by rw [hDt, hln]; rfl)) (Go.IntWalk.i64_in _ (by omega))) ?_
        refine wl (ro_fieldAddr (k := 0) rfl fo_189_0) ?_
        refine wl_put rfl rfl rfl sz_3 hT ((by simp)) ((show _ = tkc i (i + D.length) ⟨2, 0, 0, zR⟩ from rfl)) (fun w20 hT F20 => ?_)
        replace hF := hF.thenDrew.thenO F20 (by first | exact .inr (by omega) | exact .inl rfl | exact .inl (by assumption))
        replace hR := F20.blkO hR (by omega)
        refine wl (ro_fieldAddr (k := 3) rfl fo_189_3) ?_
        refine wl_put rfl rfl rfl sz_3 hT ((by simp)) ((show _ = tkc i (i + D.length) ⟨2, 2, 0, zR⟩ from rfl)) (fun w21 hT F21 => ?_)
        replace hF := hF.thenDrew.thenO F21 (by first | exact .inr (by omega) | exact .inl rfl | exact .inl (by assumption))
        replace hR := F21.blkO hR (by omega)
        refine wl (ro_fieldAddr (k := 4) rfl fo_189_4) ?_
        refine wl_put rfl rfl rfl sz_3 hT ((by simp)) ((show _ = tkc i (i + D.length) ⟨2, 2, 1, zR⟩ from rfl)) (fun w22 hT F22 => ?_)
        replace hF := hF.thenDrew.thenO F22 (by first | exact .inr (by omega) | exact .inl rfl | exact .inl (by assumption))
        replace hR := F22.blkO hR (by omega)
        refine wl_nil (x_then (hK42 _ _ ?_))
        clear hK42 K42
        refine forget [(4, _), (5, _)] ⟨rfl, rfl, trivial⟩ (fun e => ?_)
        refine c_seq (fun K43 hK43 => ?_)
        refine c_reg ?_ -- region 24 scan.go:123
        refine wl (ro_loadAggB rfl ag_189 (hT) (rfl) (rfl)) ?_
        refine wl_puta rfl rfl ((tkc_cells _ _ _)) sz_189 (rfl) hR ((by simp)) (rfl) (fun w23 hR F23 => ?_)
        replace hF := hF.thenDrew.thenO F23 (by first | exact .inr (by omega) | exact .inl rfl | exact .inl (by assumption))
        replace hT := F23.blkO hT (by omega)
        refine wl_nil (x_then (hK43 _ _ ?_))
        clear hK43 K43
        refine c_ret (x_thenR ?_)
        refine bq_ret (res1 Tryz.results153 (rv_c rfl ag_189 (hR) rfl)) ?_
        rw [hres]; exact ⟨rfl, hF⟩
      · skip
        rw [if_neg hw1, if_pos hw2] at hres
        have hln : D.length = 5 := by rw [hw2]; rfl
        refine c_reg ?_ -- region 22 scan.go:121
        refine wl (ro_move rfl) ?_
        refine wl (ro_eqS (l := (s.drop i).take (i + D.length - i)) (m := wTRUE) (r := false) rfl rfl (congrArg some (by rw [hDt]; simpa using hw1))) ?_
        refine wl (ro_move rfl) ?_
        refine wlg_yes rfl (ro_move rfl) ?_
        refine wlg_yes rfl (ro_eqS (l := (s.drop i).take (i + D.length - i)) (m := wFALSE) (r := true) rfl rfl (congrArg some (by rw [hDt]; simpa using hw2))) ?_
        refine wl (ro_pick rfl rfl rfl) ?_
        refine wl_nil (x_then (hK41 _ _ ?_))
        clear hK41 K41
        refine wc_condT rfl ?_
        refine c_seq (fun K44 hK44 => ?_)
        refine c_reg ?_ -- region 23 scan.go:122
        refine wl (ro_move rfl) ?_
        refine wl (ro_lenS rfl st_9) ?_
        refine wl (ro_arith (r := ((0 : Nat) : Int)) rfl rfl (congrArg some (by rw [hDt, hln]; rfl)) (Go.IntWalk.i64_in _ (by omega))) ?_
        refine wl (ro_fieldAddr (k := 0) rfl fo_189_0) ?_
        refine wl_put rfl rfl rfl sz_3 hT ((by simp)) ((show _ = tkc i (i + D.length) ⟨2, 0, 0, zR⟩ from rfl)) (fun w24 hT F24 => ?_)
        replace hF := hF.thenDrew.thenO F24 (by first | exact .inr (by omega) | exact .inl rfl | exact .inl (by assumption))
        replace hR := F24.blkO hR (by omega)
        refine wl (ro_fieldAddr (k := 3) rfl fo_189_3) ?_
        refine wl_put rfl rfl rfl sz_3 hT ((by simp)) ((show _ = tkc i (i + D.length) ⟨2, 2, 0, zR⟩ from rfl)) (fun w25 hT F25 => ?_)
        replace hF := hF.thenDrew.thenO F25 (by first | exact .inr (by omega) | exact .inl rfl | exact .inl (by assumption))
        replace hR := F25.blkO hR (by omega)
        refine wl (ro_fieldAddr (k := 4) rfl fo_189_4) ?_
        refine wl_put rfl rfl rfl sz_3 hT ((by simp)) ((show _ = tkc i (i + D.length) ⟨2, 2, 0, zR⟩ from rfl)) (fun w26 hT F26 => ?_)
        replace hF := hF.thenDrew.thenO F26 (by first | exact .inr (by omega) | exact .inl rfl | exact .inl (by assumption))
        replace hR := F26.blkO hR (by omega)
        refine wl_nil (x_then (hK44 _ _ ?_))
        clear hK44 K44
        refine forget [(4, _), (5, _)] ⟨rfl, rfl, trivial⟩ (fun e => ?_)
        refine c_seq (fun K45 hK45 => ?_)
        refine c_reg ?_ -- region 24 scan.go:123
        refine wl (ro_loadAggB rfl ag_189 (hT) (rfl) (rfl)) ?_
        refine wl_puta rfl rfl ((tkc_cells _ _ _)) sz_189 (rfl) hR ((by simp)) (rfl) (fun w27 hR F27 => ?_)
        replace hF := hF.thenDrew.thenO F27 (by first | exact .inr (by omega) | exact .inl rfl | exact .inl (by assumption))
        replace hT := F27.blkO hT (by omega)
        refine wl_nil (x_then (hK45 _ _ ?_))
        clear hK45 K45
        refine c_ret (x_thenR ?_)
        refine bq_ret (res1 Tryz.results153 (rv_c rfl ag_189 (hR) rfl)) ?_
        rw [hres]; exact ⟨rfl, hF⟩
      · skip
        rw [if_neg hw1, if_neg hw2, ← fnUp_eq] at hres
        refine c_reg ?_ -- region 22 scan.go:121
        refine wl (ro_move rfl) ?_
        refine wl (ro_eqS (l := (s.drop i).take (i + D.length - i)) (m := wTRUE) (r := false) rfl rfl (congrArg some (by rw [hDt]; simpa using hw1))) ?_
        refine wl (ro_move rfl) ?_
        refine wlg_yes rfl (ro_move rfl) ?_
        refine wlg_yes rfl (ro_eqS (l := (s.drop i).take (i + D.length - i)) (m := wFALSE) (r := false) rfl rfl (congrArg some (by rw [hDt]; simpa using hw2))) ?_
        refine wl (ro_pick rfl rfl rfl) ?_
        refine wl_nil (x_then (hK41 _ _ ?_))
        clear hK41 K41
        refine wc_condF rfl ?_
        refine c_skip (x_then (hK40 _ _ ?_))
        clear hK40 K40
        refine forget [(4, _), (5, _), (8, _)] ⟨rfl, rfl, rfl, trivial⟩ (fun e => ?_)
        refine c_seq (fun K46 hK46 => ?_)
        refine c_reg ?_ -- region 25 scan.go:125
        refine wl (ro_fieldAddr (k := 0) rfl fo_189_0) ?_
        refine wl_put rfl rfl rfl sz_3 hT ((by simp)) ((show _ = tkc i (i + D.length) ⟨3, 0, 0, zR⟩ from rfl)) (fun w28 hT F28 => ?_)
        replace hF := hF.thenDrew.thenO F28 (by first | exact .inr (by omega) | exact .inl rfl | exact .inl (by assumption))
        replace hR := F28.blkO hR (by omega)
        refine wl (ro_fieldAddr (k := 4) rfl fo_189_4) ?_
        refine wl_put rfl rfl rfl sz_3 hT ((by simp)) ((show _ = tkc i (i + D.length) ⟨3, 0, 5, zR⟩ from rfl)) (fun w29 hT F29 => ?_)
        replace hF := hF.thenDrew.thenO F29 (by first | exact .inr (by omega) | exact .inl rfl | exact .inl (by assumption))
        replace hR := F29.blkO hR (by omega)
        refine wl_nil (x_then (hK46 _ _ ?_))
        clear hK46 K46
        refine c_seq (fun K47 hK47 => ?_)
        refine c_seq (fun K48 hK48 => ?_)
        refine c_reg ?_ -- region 26 scan.go:126
        refine wl (ro_assign rfl) ?_
        refine wl_nil (x_then (hK48 _ _ ?_))
        clear hK48 K48
        refine c_block ?_
        -- loop@r27: live slots [4, 5, 8, 9]
        refine c_loopG (fun m a' w' => ∃ (k : Nat), m = 10 - k ∧ k ≤ 10 ∧ Blk w'.heap rb [i64c 0, i64c 0, i64c 0, i64c 0, i64c 0, icv 0, icv 0, .bool false, .bool false] 189 ∧ Blk w'.heap tb (tkc i (i + D.length) (if fnUp D k = 0 then ⟨3, 0, 5, zR⟩ else ⟨5, 0, fnUp D k, zR⟩)) 189 ∧ Fram none' w w' ∧ ∃ e, a' = Fr 112 (upds e [(4, ptr rb), (5, ptr tb), (8, S ((s.drop i).take (i + D.length - i))), (9, i64c (k + 1))]) []) 10 ⟨0, rfl, by omega, hR, hT, hF, kp _ ⟨rfl, rfl, rfl, rfl, trivial⟩⟩ ?_
        clear hR hT hF
        rintro m a' w8 ⟨k, rfl, hk, hR, hT, hF, e, rfl⟩
        have hsz8 := hF.size
        refine c_seq (fun K49 hK49 => ?_)
        refine c_seq (fun K50 hK50 => ?_)
        refine c_reg ?_ -- region 27 scan.go:126
        refine wl (ro_move rfl) ?_
        refine wl (ro_cmp (r := decide (k < 10)) rfl rfl (congrArg some (decide_eq_decide.2 (by show ((k + 1 : Nat) : Int) ≤ 10 ↔ k < 10; omega)))) ?_
        refine wl_nil (x_then (hK50 _ _ ?_))
        clear hK50 K50
        refine wc_cond rfl (fun hc101 => ?_) (fun hc101 => ?_)
        · try simp only [decide_eq_true_eq, decide_eq_false_iff_not, Bool.not_eq_true', Bool.not_eq_false', Bool.not_eq_eq_eq_not, Bool.not_true, Bool.not_false, beq_iff_eq, bne_iff_ne, ne_eq, beq_eq_false_iff_ne, bne_eq_false_iff_eq, gt_iff_lt, ge_iff_le, Int.not_lt, Int.not_le] at hc101
          refine c_skip (x_then (hK49 _ _ ?_))
          clear hK49 K49
          refine forget [(4, _), (5, _), (8, _), (9, _)] ⟨rfl, rfl, rfl, rfl, trivial⟩ (fun e => ?_)
          refine c_seq (fun K51 hK51 => ?_)
          refine c_block ?_
          refine c_seq (fun K52 hK52 => ?_)
          refine c_reg ?_ -- region 29 scan.go:127
          refine wl (ro_move rfl) ?_
          refine wl_call rfl en_182 (FuncName182 (by omega) (by omega)) ?_
          rintro _ _ ⟨rfl, rfl⟩
          refine wl (ro_move rfl) ?_
          refine wl (ro_eqS (l := fnm (k + 1)) (m := (s.drop i).take (i + D.length - i)) (r := decide (fnm (k + 1) = D)) rfl rfl (congrArg some (by rw [hDt]; by_cases h : fnm (k + 1) = D <;> simp [h]))) ?_
          refine wl_nil (x_then (hK52 _ _ ?_))
          clear hK52 K52
          refine wc_cond rfl (fun hc107 => ?_) (fun hc107 => ?_)
          · try simp only [decide_eq_true_eq, decide_eq_false_iff_not, Bool.not_eq_true', Bool.not_eq_false', Bool.not_eq_eq_eq_not, Bool.not_true, Bool.not_false, beq_iff_eq, bne_iff_ne, ne_eq, beq_eq_false_iff_ne, bne_eq_false_iff_eq, gt_iff_lt, ge_iff_le, Int.not_lt, Int.not_le] at hc107
            have hup : fnUp D (k + 1) = k + 1 := by simp only [fnUp]; rw [if_pos hc107]
            generalize htz : (if fnUp D k = 0 then (⟨3, 0, 5, zR⟩ : Tk) else ⟨5, 0, fnUp D k, zR⟩) = tz at hT
            have hzo : tz.o = 0 := by rw [← htz]; split <;> rfl
            have hzr : tz.r = zR := by rw [← htz]; split <;> rfl
            refine c_reg ?_ -- region 30 scan.go:128
            refine wl (ro_move rfl) ?_
            refine wl (ro_fieldAddr (k := 0) rfl fo_189_0) ?_
            refine wl_put rfl rfl rfl sz_3 hT ((by simp)) ((show _ = tkc i (i + D.length) ⟨5, tz.o, tz.n, tz.r⟩ from rfl)) (fun w30 hT F30 => ?_)
            replace hF := hF.thenDrew.thenO F30 (by first | exact .inr (by omega) | exact .inl rfl | exact .inl (by assumption))
            replace hR := F30.blkO hR (by omega)
            refine wl (ro_fieldAddr (k := 4) rfl fo_189_4) ?_
            refine wl_put rfl rfl rfl sz_3 hT ((by simp)) ((show _ = tkc i (i + D.length) ⟨5, tz.o, k + 1, tz.r⟩ from rfl)) (fun w31 hT F31 => ?_)
            replace hF := hF.thenDrew.thenO F31 (by first | exact .inr (by omega) | exact .inl rfl | exact .inl (by assumption))
            replace hR := F31.blkO hR (by omega)
            rw [hzo, hzr] at hT
            refine wl_nil (x_blk (x_then (hK51 _ _ ?_)))
            clear hK51 K51
            refine c_reg ?_ -- region 28 scan.go:126
            refine wl (ro_move rfl) ?_
            refine wl (ro_arith (r := ((k + 1 + 1 : Nat) : Int)) rfl rfl (congrArg some (by show ((k + 1 : Nat) : Int) + 1 = _; omega)) (Go.IntWalk.i64_in _ (by omega))) ?_
            refine wl (ro_assign rfl) ?_
            refine wl_nil (x_then ?_)
            first
              | exact ⟨10 - (k + 1), by omega, k + 1, rfl, by omega, hR, by rw [hup]; exact hT, hF, kp _ ⟨rfl, rfl, rfl, rfl, trivial⟩⟩
              | exact ⟨10 - (k + 1), by omega, k + 1, rfl, by omega, hR, by rw [hup, if_neg (by omega)]; exact hT, hF, kp _ ⟨rfl, rfl, rfl, rfl, trivial⟩⟩
          · try simp only [decide_eq_true_eq, decide_eq_false_iff_not, Bool.not_eq_true', Bool.not_eq_false', Bool.not_eq_eq_eq_not, Bool.not_true, Bool.not_false, beq_iff_eq, bne_iff_ne, ne_eq, beq_eq_false_iff_ne, bne_eq_false_iff_eq, gt_iff_lt, ge_iff_le, Int.not_lt, Int.not_le] at hc107
            have hup : fnUp D (k + 1) = fnUp D k := by simp only [fnUp]; rw [if_neg hc107]
            refine c_skip (x_blk (x_then (hK51 _ _ ?_)))
            clear hK51 K51
            refine c_reg ?_ -- region 28 scan.go:126
            refine wl (ro_move rfl) ?_
            refine wl (ro_arith (r := ((k + 1 + 1 : Nat) : Int)) rfl rfl (congrArg some (by show ((k + 1 : Nat) : Int) + 1 = _; omega)) (Go.IntWalk.i64_in _ (by omega))) ?_
            refine wl (ro_assign rfl) ?_
            refine wl_nil (x_then ?_)
            first
              | exact ⟨10 - (k + 1), by omega, k + 1, rfl, by omega, hR, by rw [hup]; exact hT, hF, kp _ ⟨rfl, rfl, rfl, rfl, trivial⟩⟩
              | exact ⟨10 - (k + 1), by omega, k + 1, rfl, by omega, hR, by rw [hup, if_neg (by omega)]; exact hT, hF, kp _ ⟨rfl, rfl, rfl, rfl, trivial⟩⟩
        · try simp only [decide_eq_true_eq, decide_eq_false_iff_not, Bool.not_eq_true', Bool.not_eq_false', Bool.not_eq_eq_eq_not, Bool.not_true, Bool.not_false, beq_iff_eq, bne_iff_ne, ne_eq, beq_eq_false_iff_ne, bne_eq_false_iff_eq, gt_iff_lt, ge_iff_le, Int.not_lt, Int.not_le] at hc101
          refine c_exit (x_thenX (x_thenX (x_blkX (x_then (hK47 _ _ ?_)))))
          clear hK49 K49 hK47 K47
          refine forget [(4, _), (5, _)] ⟨rfl, rfl, trivial⟩ (fun e => ?_)
          refine c_seq (fun K53 hK53 => ?_)
          rw [show k = 10 by omega, ← hres] at hT
          refine c_reg ?_ -- region 31 scan.go:131
          refine wl (ro_loadAggB rfl ag_189 (hT) (rfl) (rfl)) ?_
          refine wl_puta rfl rfl ((tkc_cells _ _ _)) sz_189 (rfl) hR ((by simp)) (rfl) (fun w32 hR F32 => ?_)
          replace hF := hF.thenDrew.thenO F32 (by first | exact .inr (by omega) | exact .inl rfl | exact .inl (by assumption))
          replace hT := F32.blkO hT (by omega)
          refine wl_nil (x_then (hK53 _ _ ?_))
          clear hK53 K53
          refine c_ret ?_
          refine bq_ret (res1 Tryz.results153 (rv_c rfl ag_189 (hR) rfl)) ?_
          exact ⟨rfl, hF⟩
  · skip
    refine c_reg ?_ -- region 3 scan.go:100
    refine wl (ro_fieldAddr (k := 2) rfl fo_189_2) ?_
    refine wl (ro_loadB rfl sc_3 (hT) (rfl)) ?_
    refine wl (ro_move rfl) ?_
    refine wl (ro_lenS rfl st_9) ?_
    refine wl (ro_cmp (r := false) rfl rfl (congrArg some (decide_eq_false (by show ¬ (((i + k : Nat) : Int) < (s.length : Int)); omega)))) ?_
    refine wl (ro_move rfl) ?_
    refine wlg_no rfl ?_
    refine wlg_no rfl ?_
    refine wlg_no rfl ?_
    refine wlg_no rfl ?_
    refine wlg_no rfl ?_
    refine wl (ro_pick rfl rfl rfl) ?_
    refine wl_nil (x_then (hK6 _ _ ?_))
    clear hK6 K6
    refine wc_condF rfl ?_
    refine c_exit (x_thenX (x_thenX (x_blkX (x_then (hK4 _ _ ?_)))))
    clear hK5 K5 hK4 K4
    refine c_seq (fun K54 hK54 => ?_)
    refine c_seq (fun K55 hK55 => ?_)
    subst hkD
    rw [List.take_length] at hau
    rw [hau] at hrun
    have hcs : (∃ r', refOf D = some r' ∧ q = 4 ∧ r' = ⟨r.c, r.r - 1, r.ac, r.ar⟩) ∨ (∃ r', refOf D = some r' ∧ q = 5 ∧ r' = ⟨r.c, r.r - 1, r.ac, r.ar⟩) ∨ (refOf D = none ∧ q ≠ 4 ∧ q ≠ 5) := by
      cases hro : refOf D with
      | none => rw [hro] at hrun; exact .inr (.inr ⟨rfl, hrun⟩)
      | some r' =>
        rw [hro] at hrun
        obtain ⟨h | h, h'⟩ := hrun
        · exact .inl ⟨r', rfl, h, h'.symm⟩
        · exact .inr (.inl ⟨r', rfl, h, h'.symm⟩)
    rcases hcs with ⟨r', hro, rfl, hre⟩ | ⟨r', hro, rfl, hre⟩ | ⟨hro, hn4, hn5⟩
    · skip
      have hres : wordT D = ⟨4, 0, 0, r'⟩ := by unfold wordT; rw [hro]
      refine c_reg ?_ -- region 17 scan.go:115
      refine wl (ro_move rfl) ?_
      refine wl (ro_cmp rfl rfl rfl) ?_
      refine wl (ro_move rfl) ?_
      refine wlg_no rfl ?_
      refine wlg_no rfl ?_
      refine wl (ro_pick rfl rfl rfl) ?_
      refine wl_nil (x_then (hK55 _ _ ?_))
      clear hK55 K55
      refine wc_condT rfl ?_
      refine c_seq (fun K56 hK56 => ?_)
      refine c_reg ?_ -- region 18 scan.go:116
      refine wl (ro_fieldAddr (k := 5) rfl fo_189_5) ?_
      refine wl (ro_fieldAddr (k := 1) rfl fo_141_1) ?_
      refine wl (ro_loadB rfl sc_3 (hT) (rfl)) ?_
      refine wl (ro_arith (r := r.r - 1) rfl rfl rfl (Go.IntWalk.i64_in _ (by omega))) ?_
      refine wl (ro_fieldAddr (k := 5) rfl fo_189_5) ?_
      refine wl (ro_fieldAddr (k := 1) rfl fo_141_1) ?_
      refine wl_put rfl rfl rfl sz_3 hT ((by simp)) ((show _ = tkc i (i + D.length) ⟨4, 0, 0, ⟨r.c, r.r - 1, r.ac, r.ar⟩⟩ from rfl)) (fun w33 hT F33 => ?_)
      replace hF := hF.thenDrew.thenO F33 (by first | exact .inr (by omega) | exact .inl rfl | exact .inl (by assumption))
      replace hR := F33.blkO hR (by omega)
      refine wl_nil (x_then (hK56 _ _ ?_))
      clear hK56 K56
      refine forget [(4, _), (5, _)] ⟨rfl, rfl, trivial⟩ (fun e => ?_)
      refine c_seq (fun K57 hK57 => ?_)
      refine c_reg ?_ -- region 19 scan.go:117
      refine wl (ro_loadAggB rfl ag_189 (hT) (rfl) (rfl)) ?_
      refine wl_puta rfl rfl ((tkc_cells _ _ _)) sz_189 (rfl) hR ((by simp)) (rfl) (fun w34 hR F34 => ?_)
      replace hF := hF.thenDrew.thenO F34 (by first | exact .inr (by omega) | exact .inl rfl | exact .inl (by assumption))
      replace hT := F34.blkO hT (by omega)
      refine wl_nil (x_then (hK57 _ _ ?_))
      clear hK57 K57
      refine c_ret (x_thenR ?_)
      refine bq_ret (res1 Tryz.results153 (rv_c rfl ag_189 (hR) rfl)) ?_
      rw [hres, hre]; exact ⟨rfl, hF⟩
    · skip
      have hres : wordT D = ⟨4, 0, 0, r'⟩ := by unfold wordT; rw [hro]
      refine c_reg ?_ -- region 17 scan.go:115
      refine wl (ro_move rfl) ?_
      refine wl (ro_cmp rfl rfl rfl) ?_
      refine wl (ro_move rfl) ?_
      refine wlg_yes rfl (ro_move rfl) ?_
      refine wlg_yes rfl (ro_cmp rfl rfl rfl) ?_
      refine wl (ro_pick rfl rfl rfl) ?_
      refine wl_nil (x_then (hK55 _ _ ?_))
      clear hK55 K55
      refine wc_condT rfl ?_
      refine c_seq (fun K58 hK58 => ?_)
      refine c_reg ?_ -- region 18 scan.go:116
      refine wl (ro_fieldAddr (k := 5) rfl fo_189_5) ?_
      refine wl (ro_fieldAddr (k := 1) rfl fo_141_1) ?_
      refine wl (ro_loadB rfl sc_3 (hT) (rfl)) ?_
      refine wl (ro_arith (r := r.r - 1) rfl rfl rfl (Go.IntWalk.i64_in _ (by omega))) ?_
      refine wl (ro_fieldAddr (k := 5) rfl fo_189_5) ?_
      refine wl (ro_fieldAddr (k := 1) rfl fo_141_1) ?_
      refine wl_put rfl rfl rfl sz_3 hT ((by simp)) ((show _ = tkc i (i + D.length) ⟨4, 0, 0, ⟨r.c, r.r - 1, r.ac, r.ar⟩⟩ from rfl)) (fun w35 hT F35 => ?_)
      replace hF := hF.thenDrew.thenO F35 (by first | exact .inr (by omega) | exact .inl rfl | exact .inl (by assumption))
      replace hR := F35.blkO hR (by omega)
      refine wl_nil (x_then (hK58 _ _ ?_))
      clear hK58 K58
      refine forget [(4, _), (5, _)] ⟨rfl, rfl, trivial⟩ (fun e => ?_)
      refine c_seq (fun K59 hK59 => ?_)
      refine c_reg ?_ -- region 19 scan.go:117
      refine wl (ro_loadAggB rfl ag_189 (hT) (rfl) (rfl)) ?_
      refine wl_puta rfl rfl ((tkc_cells _ _ _)) sz_189 (rfl) hR ((by simp)) (rfl) (fun w36 hR F36 => ?_)
      replace hF := hF.thenDrew.thenO F36 (by first | exact .inr (by omega) | exact .inl rfl | exact .inl (by assumption))
      replace hT := F36.blkO hT (by omega)
      refine wl_nil (x_then (hK59 _ _ ?_))
      clear hK59 K59
      refine c_ret (x_thenR ?_)
      refine bq_ret (res1 Tryz.results153 (rv_c rfl ag_189 (hR) rfl)) ?_
      rw [hres, hre]; exact ⟨rfl, hF⟩
    · skip
      have hres : wordT D = if D = wTRUE then ⟨2, 2, 1, zR⟩ else if D = wFALSE then ⟨2, 2, 0, zR⟩ else if fnOf D = 0 then ⟨3, 0, 5, zR⟩ else ⟨5, 0, fnOf D, zR⟩ := by unfold wordT; rw [hro]
      refine c_reg ?_ -- region 17 scan.go:115
      refine wl (ro_move rfl) ?_
      refine wl (ro_cmp (r := false) rfl rfl (congrArg some ((beqc q 4).trans (decide_eq_false hn4)))) ?_
      refine wl (ro_move rfl) ?_
      refine wlg_yes rfl (ro_move rfl) ?_
      refine wlg_yes rfl (ro_cmp (r := false) rfl rfl (congrArg some ((beqc q 5).trans (decide_eq_false hn5)))) ?_
      refine wl (ro_pick rfl rfl rfl) ?_
      refine wl_nil (x_then (hK55 _ _ ?_))
      clear hK55 K55
      refine wc_condF rfl ?_
      refine c_skip (x_then (hK54 _ _ ?_))
      clear hK54 K54
      refine forget [(0, _), (1, _), (4, _), (5, _)] ⟨rfl, rfl, rfl, rfl, trivial⟩ (fun e => ?_)
      refine c_seq (fun K60 hK60 => ?_)
      refine c_reg ?_ -- region 20 scan.go:119
      refine wl (ro_build rfl bld_141) ?_
      refine wl (ro_fieldAddr (k := 5) rfl fo_189_5) ?_
      refine wl_puta rfl rfl (by simp [Value.oneCell', i64c, u64c, u8c, ptr]) sz_141 (rfl) hT ((by simp)) ((show _ = tkc i (i + D.length) ⟨4, 0, 0, zR⟩ from rfl)) (fun w37 hT F37 => ?_)
      replace hF := hF.thenDrew.thenO F37 (by first | exact .inr (by omega) | exact .inl rfl | exact .inl (by assumption))
      replace hR := F37.blkO hR (by omega)
      refine wl_nil (x_then (hK60 _ _ ?_))
      clear hK60 K60
      refine forget [(0, _), (1, _), (4, _), (5, _)] ⟨rfl, rfl, rfl, rfl, trivial⟩ (fun e => ?_)
      refine c_seq (fun K61 hK61 => ?_)
      refine c_reg ?_ -- region 21 scan.go:120
      refine wl (ro_move rfl) ?_
      refine wl (ro_move rfl) ?_
      refine wl (ro_fieldAddr (k := 2) rfl fo_189_2) ?_
      refine wl (ro_loadB rfl sc_3 (hT) (rfl)) ?_
      refine wl (ro_sliceSLH (l := i) (h := i + D.length) rfl rfl rfl st_9 rfl rfl (by omega) (by omega)) ?_
      refine wl (ro_assign rfl) ?_
      refine wl_nil (x_then (hK61 _ _ ?_))
      clear hK61 K61
      refine c_seq (fun K62 hK62 => ?_)
      refine c_seq (fun K63 hK63 => ?_)
      have hcw : D = wTRUE ∨ (D ≠ wTRUE ∧ D = wFALSE) ∨ (D ≠ wTRUE ∧ D ≠ wFALSE) := by
        by_cases h1 : D = wTRUE
        · exact .inl h1
        · by_cases h2 : D = wFALSE
          · exact .inr (.inl ⟨h1, h2⟩)
          · exact .inr (.inr ⟨h1, h2⟩)
      rcases hcw with hw1 | ⟨hw1, hw2⟩ | ⟨hw1, hw2⟩
      · skip
        rw [if_pos hw1] at hres
        have hln : D.length = 4 := by rw [hw1]; rfl
        refine c_reg ?_ -- region 22 scan.go:121
        refine wl (ro_move rfl) ?_
        refine wl (ro_eqS (l := (s.drop i).take (i + D.length - i)) (m := wTRUE) (r := true) rfl rfl (congrArg some (by rw [hDt]; simpa using hw1))) ?_
        refine wl (ro_move rfl) ?_
        refine wlg_no rfl ?_
        refine wlg_no rfl ?_
        refine wl (ro_pick rfl rfl rfl) ?_
        refine wl_nil (x_then (hK63 _ _ ?_))
        clear hK63 K63
        refine wc_condT rfl ?_
        refine c_seq (fun K64 hK64 => ?_)
        refine c_reg ?_ -- region 23 scan.go:122
        refine wl (ro_move rfl) ?_
        refine wl (ro_lenS rfl st_9) ?_
        refine wl (ro_arith (r := ((1 : Nat) : Int)) rfl rfl (congrArg some (by rw [hDt, hln]; rfl)) (Go.IntWalk.i64_in _ (by omega))) ?_
        refine wl (ro_fieldAddr (k := 0) rfl fo_189_0) ?_
        refine wl_put rfl rfl rfl sz_3 hT ((by simp)) ((show _ = tkc i (i + D.length) ⟨2, 0, 0, zR⟩ from rfl)) (fun w38 hT F38 => ?_)
        replace hF := hF.thenDrew.thenO F38 (by first | exact .inr (by omega) | exact .inl rfl | exact .inl (by assumption))
        replace hR := F38.blkO hR (by omega)
        refine wl (ro_fieldAddr (k := 3) rfl fo_189_3) ?_
        refine wl_put rfl rfl rfl sz_3 hT ((by simp)) ((show _ = tkc i (i + D.length) ⟨2, 2, 0, zR⟩ from rfl)) (fun w39 hT F39 => ?_)
        replace hF := hF.thenDrew.thenO F39 (by first | exact .inr (by omega) | exact .inl rfl | exact .inl (by assumption))
        replace hR := F39.blkO hR (by omega)
        refine wl (ro_fieldAddr (k := 4) rfl fo_189_4) ?_
        refine wl_put rfl rfl rfl sz_3 hT ((by simp)) ((show _ = tkc i (i + D.length) ⟨2, 2, 1, zR⟩ from rfl)) (fun w40 hT F40 => ?_)
        replace hF := hF.thenDrew.thenO F40 (by first | exact .inr (by omega) | exact .inl rfl | exact .inl (by assumption))
        replace hR := F40.blkO hR (by omega)
        refine wl_nil (x_then (hK64 _ _ ?_))
        clear hK64 K64
        refine forget [(4, _), (5, _)] ⟨rfl, rfl, trivial⟩ (fun e => ?_)
        refine c_seq (fun K65 hK65 => ?_)
        refine c_reg ?_ -- region 24 scan.go:123
        refine wl (ro_loadAggB rfl ag_189 (hT) (rfl) (rfl)) ?_
        refine wl_puta rfl rfl ((tkc_cells _ _ _)) sz_189 (rfl) hR ((by simp)) (rfl) (fun w41 hR F41 => ?_)
        replace hF := hF.thenDrew.thenO F41 (by first | exact .inr (by omega) | exact .inl rfl | exact .inl (by assumption))
        replace hT := F41.blkO hT (by omega)
        refine wl_nil (x_then (hK65 _ _ ?_))
        clear hK65 K65
        refine c_ret (x_thenR ?_)
        refine bq_ret (res1 Tryz.results153 (rv_c rfl ag_189 (hR) rfl)) ?_
        rw [hres]; exact ⟨rfl, hF⟩
      · skip
        rw [if_neg hw1, if_pos hw2] at hres
        have hln : D.length = 5 := by rw [hw2]; rfl
        refine c_reg ?_ -- region 22 scan.go:121
        refine wl (ro_move rfl) ?_
        refine wl (ro_eqS (l := (s.drop i).take (i + D.length - i)) (m := wTRUE) (r := false) rfl rfl (congrArg some (by rw [hDt]; simpa using hw1))) ?_
        refine wl (ro_move rfl) ?_
        refine wlg_yes rfl (ro_move rfl) ?_
        refine wlg_yes rfl (ro_eqS (l := (s.drop i).take (i + D.length - i)) (m := wFALSE) (r := true) rfl rfl (congrArg some (by rw [hDt]; simpa using hw2))) ?_
        refine wl (ro_pick rfl rfl rfl) ?_
        refine wl_nil (x_then (hK63 _ _ ?_))
        clear hK63 K63
        refine wc_condT rfl ?_
        refine c_seq (fun K66 hK66 => ?_)
        refine c_reg ?_ -- region 23 scan.go:122
        refine wl (ro_move rfl) ?_
        refine wl (ro_lenS rfl st_9) ?_
        refine wl (ro_arith (r := ((0 : Nat) : Int)) rfl rfl (congrArg some (by rw [hDt, hln]; rfl)) (Go.IntWalk.i64_in _ (by omega))) ?_
        refine wl (ro_fieldAddr (k := 0) rfl fo_189_0) ?_
        refine wl_put rfl rfl rfl sz_3 hT ((by simp)) ((show _ = tkc i (i + D.length) ⟨2, 0, 0, zR⟩ from rfl)) (fun w42 hT F42 => ?_)
        replace hF := hF.thenDrew.thenO F42 (by first | exact .inr (by omega) | exact .inl rfl | exact .inl (by assumption))
        replace hR := F42.blkO hR (by omega)
        refine wl (ro_fieldAddr (k := 3) rfl fo_189_3) ?_
        refine wl_put rfl rfl rfl sz_3 hT ((by simp)) ((show _ = tkc i (i + D.length) ⟨2, 2, 0, zR⟩ from rfl)) (fun w43 hT F43 => ?_)
        replace hF := hF.thenDrew.thenO F43 (by first | exact .inr (by omega) | exact .inl rfl | exact .inl (by assumption))
        replace hR := F43.blkO hR (by omega)
        refine wl (ro_fieldAddr (k := 4) rfl fo_189_4) ?_
        refine wl_put rfl rfl rfl sz_3 hT ((by simp)) ((show _ = tkc i (i + D.length) ⟨2, 2, 0, zR⟩ from rfl)) (fun w44 hT F44 => ?_)
        replace hF := hF.thenDrew.thenO F44 (by first | exact .inr (by omega) | exact .inl rfl | exact .inl (by assumption))
        replace hR := F44.blkO hR (by omega)
        refine wl_nil (x_then (hK66 _ _ ?_))
        clear hK66 K66
        refine forget [(4, _), (5, _)] ⟨rfl, rfl, trivial⟩ (fun e => ?_)
        refine c_seq (fun K67 hK67 => ?_)
        refine c_reg ?_ -- region 24 scan.go:123
        refine wl (ro_loadAggB rfl ag_189 (hT) (rfl) (rfl)) ?_
        refine wl_puta rfl rfl ((tkc_cells _ _ _)) sz_189 (rfl) hR ((by simp)) (rfl) (fun w45 hR F45 => ?_)
        replace hF := hF.thenDrew.thenO F45 (by first | exact .inr (by omega) | exact .inl rfl | exact .inl (by assumption))
        replace hT := F45.blkO hT (by omega)
        refine wl_nil (x_then (hK67 _ _ ?_))
        clear hK67 K67
        refine c_ret (x_thenR ?_)
        refine bq_ret (res1 Tryz.results153 (rv_c rfl ag_189 (hR) rfl)) ?_
        rw [hres]; exact ⟨rfl, hF⟩
      · skip
        rw [if_neg hw1, if_neg hw2, ← fnUp_eq] at hres
        refine c_reg ?_ -- region 22 scan.go:121
        refine wl (ro_move rfl) ?_
        refine wl (ro_eqS (l := (s.drop i).take (i + D.length - i)) (m := wTRUE) (r := false) rfl rfl (congrArg some (by rw [hDt]; simpa using hw1))) ?_
        refine wl (ro_move rfl) ?_
        refine wlg_yes rfl (ro_move rfl) ?_
        refine wlg_yes rfl (ro_eqS (l := (s.drop i).take (i + D.length - i)) (m := wFALSE) (r := false) rfl rfl (congrArg some (by rw [hDt]; simpa using hw2))) ?_
        refine wl (ro_pick rfl rfl rfl) ?_
        refine wl_nil (x_then (hK63 _ _ ?_))
        clear hK63 K63
        refine wc_condF rfl ?_
        refine c_skip (x_then (hK62 _ _ ?_))
        clear hK62 K62
        refine forget [(4, _), (5, _), (8, _)] ⟨rfl, rfl, rfl, trivial⟩ (fun e => ?_)
        refine c_seq (fun K68 hK68 => ?_)
        refine c_reg ?_ -- region 25 scan.go:125
        refine wl (ro_fieldAddr (k := 0) rfl fo_189_0) ?_
        refine wl_put rfl rfl rfl sz_3 hT ((by simp)) ((show _ = tkc i (i + D.length) ⟨3, 0, 0, zR⟩ from rfl)) (fun w46 hT F46 => ?_)
        replace hF := hF.thenDrew.thenO F46 (by first | exact .inr (by omega) | exact .inl rfl | exact .inl (by assumption))
        replace hR := F46.blkO hR (by omega)
        refine wl (ro_fieldAddr (k := 4) rfl fo_189_4) ?_
        refine wl_put rfl rfl rfl sz_3 hT ((by simp)) ((show _ = tkc i (i + D.length) ⟨3, 0, 5, zR⟩ from rfl)) (fun w47 hT F47 => ?_)
        replace hF := hF.thenDrew.thenO F47 (by first | exact .inr (by omega) | exact .inl rfl | exact .inl (by assumption))
        replace hR := F47.blkO hR (by omega)
        refine wl_nil (x_then (hK68 _ _ ?_))
        clear hK68 K68
        refine c_seq (fun K69 hK69 => ?_)
        refine c_seq (fun K70 hK70 => ?_)
        refine c_reg ?_ -- region 26 scan.go:126
        refine wl (ro_assign rfl) ?_
        refine wl_nil (x_then (hK70 _ _ ?_))
        clear hK70 K70
        refine c_block ?_
        -- loop@r27: live slots [4, 5, 8, 9]
        refine c_loopG (fun m a' w' => ∃ (k : Nat), m = 10 - k ∧ k ≤ 10 ∧ Blk w'.heap rb [i64c 0, i64c 0, i64c 0, i64c 0, i64c 0, icv 0, icv 0, .bool false, .bool false] 189 ∧ Blk w'.heap tb (tkc i (i + D.length) (if fnUp D k = 0 then ⟨3, 0, 5, zR⟩ else ⟨5, 0, fnUp D k, zR⟩)) 189 ∧ Fram none' w w' ∧ ∃ e, a' = Fr 112 (upds e [(4, ptr rb), (5, ptr tb), (8, S ((s.drop i).take (i + D.length - i))), (9, i64c (k + 1))]) []) 10 ⟨0, rfl, by omega, hR, hT, hF, kp _ ⟨rfl, rfl, rfl, rfl, trivial⟩⟩ ?_
        clear hR hT hF
        rintro m a' w8 ⟨k, rfl, hk, hR, hT, hF, e, rfl⟩
        have hsz8 := hF.size
        refine c_seq (fun K71 hK71 => ?_)
        refine c_seq (fun K72 hK72 => ?_)
        refine c_reg ?_ -- region 27 scan.go:126
        refine wl (ro_move rfl) ?_
        refine wl (ro_cmp (r := decide (k < 10)) rfl rfl (congrArg some (decide_eq_decide.2 (by show ((k + 1 : Nat) : Int) ≤ 10 ↔ k < 10; omega)))) ?_
        refine wl_nil (x_then (hK72 _ _ ?_))
        clear hK72 K72
        refine wc_cond rfl (fun hc101 => ?_) (fun hc101 => ?_)
        · try simp only [decide_eq_true_eq, decide_eq_false_iff_not, Bool.not_eq_true', Bool.not_eq_false', Bool.not_eq_eq_eq_not, Bool.not_true, Bool.not_false, beq_iff_eq, bne_iff_ne, ne_eq, beq_eq_false_iff_ne, bne_eq_false_iff_eq, gt_iff_lt, ge_iff_le, Int.not_lt, Int.not_le] at hc101
          refine c_skip (x_then (hK71 _ _ ?_))
          clear hK71 K71
          refine forget [(4, _), (5, _), (8, _), (9, _)] ⟨rfl, rfl, rfl, rfl, trivial⟩ (fun e => ?_)
          refine c_seq (fun K73 hK73 => ?_)
          refine c_block ?_
          refine c_seq (fun K74 hK74 => ?_)
          refine c_reg ?_ -- region 29 scan.go:127
          refine wl (ro_move rfl) ?_
          refine wl_call rfl en_182 (FuncName182 (by omega) (by omega)) ?_
          rintro _ _ ⟨rfl, rfl⟩
          refine wl (ro_move rfl) ?_
          refine wl (ro_eqS (l := fnm (k + 1)) (m := (s.drop i).take (i + D.length - i)) (r := decide (fnm (k + 1) = D)) rfl rfl (congrArg some (by rw [hDt]; by_cases h : fnm (k + 1) = D <;> simp [h]))) ?_
          refine wl_nil (x_then (hK74 _ _ ?_))
          clear hK74 K74
          refine wc_cond rfl (fun hc107 => ?_) (fun hc107 => ?_)
          · try simp only [decide_eq_true_eq, decide_eq_false_iff_not, Bool.not_eq_true', Bool.not_eq_false', Bool.not_eq_eq_eq_not, Bool.not_true, Bool.not_false, beq_iff_eq, bne_iff_ne, ne_eq, beq_eq_false_iff_ne, bne_eq_false_iff_eq, gt_iff_lt, ge_iff_le, Int.not_lt, Int.not_le] at hc107
            have hup : fnUp D (k + 1) = k + 1 := by simp only [fnUp]; rw [if_pos hc107]
            generalize htz : (if fnUp D k = 0 then (⟨3, 0, 5, zR⟩ : Tk) else ⟨5, 0, fnUp D k, zR⟩) = tz at hT
            have hzo : tz.o = 0 := by rw [← htz]; split <;> rfl
            have hzr : tz.r = zR := by rw [← htz]; split <;> rfl
            refine c_reg ?_ -- region 30 scan.go:128
            refine wl (ro_move rfl) ?_
            refine wl (ro_fieldAddr (k := 0) rfl fo_189_0) ?_
            refine wl_put rfl rfl rfl sz_3 hT ((by simp)) ((show _ = tkc i (i + D.length) ⟨5, tz.o, tz.n, tz.r⟩ from rfl)) (fun w48 hT F48 => ?_)
            replace hF := hF.thenDrew.thenO F48 (by first | exact .inr (by omega) | exact .inl rfl | exact .inl (by assumption))
            replace hR := F48.blkO hR (by omega)
            refine wl (ro_fieldAddr (k := 4) rfl fo_189_4) ?_
            refine wl_put rfl rfl rfl sz_3 hT ((by simp)) ((show _ = tkc i (i + D.length) ⟨5, tz.o, k + 1, tz.r⟩ from rfl)) (fun w49 hT F49 => ?_)
            replace hF := hF.thenDrew.thenO F49 (by first | exact .inr (by omega) | exact .inl rfl | exact .inl (by assumption))
            replace hR := F49.blkO hR (by omega)
            rw [hzo, hzr] at hT
            refine wl_nil (x_blk (x_then (hK73 _ _ ?_)))
            clear hK73 K73
            refine c_reg ?_ -- region 28 scan.go:126
            refine wl (ro_move rfl) ?_
            refine wl (ro_arith (r := ((k + 1 + 1 : Nat) : Int)) rfl rfl (congrArg some (by show ((k + 1 : Nat) : Int) + 1 = _; omega)) (Go.IntWalk.i64_in _ (by omega))) ?_
            refine wl (ro_assign rfl) ?_
            refine wl_nil (x_then ?_)
            first
              | exact ⟨10 - (k + 1), by omega, k + 1, rfl, by omega, hR, by rw [hup]; exact hT, hF, kp _ ⟨rfl, rfl, rfl, rfl, trivial⟩⟩
              | exact ⟨10 - (k + 1), by omega, k + 1, rfl, by omega, hR, by rw [hup, if_neg (by omega)]; exact hT, hF, kp _ ⟨rfl, rfl, rfl, rfl, trivial⟩⟩
          · try simp only [decide_eq_true_eq, decide_eq_false_iff_not, Bool.not_eq_true', Bool.not_eq_false', Bool.not_eq_eq_eq_not, Bool.not_true, Bool.not_false, beq_iff_eq, bne_iff_ne, ne_eq, beq_eq_false_iff_ne, bne_eq_false_iff_eq, gt_iff_lt, ge_iff_le, Int.not_lt, Int.not_le] at hc107
            have hup : fnUp D (k + 1) = fnUp D k := by simp only [fnUp]; rw [if_neg hc107]
            refine c_skip (x_blk (x_then (hK73 _ _ ?_)))
            clear hK73 K73
            refine c_reg ?_ -- region 28 scan.go:126
            refine wl (ro_move rfl) ?_
            refine wl (ro_arith (r := ((k + 1 + 1 : Nat) : Int)) rfl rfl (congrArg some (by show ((k + 1 : Nat) : Int) + 1 = _; omega)) (Go.IntWalk.i64_in _ (by omega))) ?_
            refine wl (ro_assign rfl) ?_
            refine wl_nil (x_then ?_)
            first
              | exact ⟨10 - (k + 1), by omega, k + 1, rfl, by omega, hR, by rw [hup]; exact hT, hF, kp _ ⟨rfl, rfl, rfl, rfl, trivial⟩⟩
              | exact ⟨10 - (k + 1), by omega, k + 1, rfl, by omega, hR, by rw [hup, if_neg (by omega)]; exact hT, hF, kp _ ⟨rfl, rfl, rfl, rfl, trivial⟩⟩
        · try simp only [decide_eq_true_eq, decide_eq_false_iff_not, Bool.not_eq_true', Bool.not_eq_false', Bool.not_eq_eq_eq_not, Bool.not_true, Bool.not_false, beq_iff_eq, bne_iff_ne, ne_eq, beq_eq_false_iff_ne, bne_eq_false_iff_eq, gt_iff_lt, ge_iff_le, Int.not_lt, Int.not_le] at hc101
          refine c_exit (x_thenX (x_thenX (x_blkX (x_then (hK69 _ _ ?_)))))
          clear hK71 K71 hK69 K69
          refine forget [(4, _), (5, _)] ⟨rfl, rfl, trivial⟩ (fun e => ?_)
          refine c_seq (fun K75 hK75 => ?_)
          rw [show k = 10 by omega, ← hres] at hT
          refine c_reg ?_ -- region 31 scan.go:131
          refine wl (ro_loadAggB rfl ag_189 (hT) (rfl) (rfl)) ?_
          refine wl_puta rfl rfl ((tkc_cells _ _ _)) sz_189 (rfl) hR ((by simp)) (rfl) (fun w50 hR F50 => ?_)
          replace hF := hF.thenDrew.thenO F50 (by first | exact .inr (by omega) | exact .inl rfl | exact .inl (by assumption))
          replace hT := F50.blkO hT (by omega)
          refine wl_nil (x_then (hK75 _ _ ?_))
          clear hK75 K75
          refine c_ret ?_
          refine bq_ret (res1 Tryz.results153 (rv_c rfl ag_189 (hR) rfl)) ?_
          exact ⟨rfl, hF⟩

end Go.Proofs.Qxb6500570aGreat
