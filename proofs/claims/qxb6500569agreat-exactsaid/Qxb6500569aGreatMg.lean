import Derived.Test.Qxb6500569aGreatMf
/- The model heap: New, Load, Clone, Unify. -/
namespace Go.Proofs.Qxb6500569aGreat
set_option linter.unusedVariables false
set_option linter.unusedSimpArgs false

theorem New34 {w : World} : Ret Tryz.prog 34 [] w (fun r w' => r = ptr w.heap.size ∧ MH w'.heap w.heap.size (.slice none 0 0) [] ∧ Fram none' w w') := by
  refine ret_of Tryz.func34 rfl Tryz.ntmps34 rfl ?_
  refine c_seq (fun K1 hK1 => ?_)
  refine c_reg ?_ -- region 0 heapm.go:20
  refine wl (ro_assign rfl) ?_
  refine wl_nil (x_then (hK1 _ _ ?_))
  clear hK1 K1
  refine forget [] trivial (fun e => ?_)
  refine c_seq (fun K2 hK2 => ?_)
  refine c_reg ?_ -- region 1 heapm.go:20
  refine wl (ro_build rfl bld_121) ?_
  refine wle (eo_box rfl rfl) ?_
  refine wl (ro_assign rfl) ?_
  refine wl_nil (x_then (hK2 _ _ ?_))
  clear hK2 K2
  refine c_ret ?_
  refine bp_ret Tryz.results34 rfl ?_
  exact ⟨rfl, ⟨Blk.new w _ _, Own.nil _ _ _, by intro nd h; cases h⟩, Fram.alloc _ _ _⟩

/-- The blocks of a model heap. -/
def MFoot (hb : Nat) (V : Value) : Nat → Prop := fun b => b = hb ∨ V.ownBlock = some b

def MLoadPost (hb : Nat) (V : Value) (hp ns : List Nd) (w : World) (r : Value) (w' : World) : Prop :=
  if hp.length + ns.length > 64 then r = .tuple #[.int .i64 (-1), i64c 6] ∧ Fram none' w w'
  else r = .tuple #[i64c hp.length, i64c 0] ∧ ∃ V', MH w'.heap hb V' (hp ++ ns) ∧ (∀ b, V'.ownBlock = some b → V.ownBlock = some b ∨ w.heap.size ≤ b) ∧ Fram (MFoot hb V) w w'

theorem lays_root {code : List UInt8} {b k : Nat} {env : List (Option Nat)} {ns : List Nd} (h : Ld 1 code env0 b [k] [] env ns) : k = b := by
  obtain ⟨c, code', rfl⟩ := h.ne
  cases hv : isV c with
  | true =>
    rcases h.var hv with ⟨a, ks', ha, _⟩ | ⟨ks', ns', ha, h1, _⟩
    · have := envLt0 0 _ _ ha; omega
    · cases h1; rfl
  | false =>
    obtain ⟨d, code1, ks1, r1, env1, ns1, ks2, ns2, hf, _, hd, h1, h2, h3, _⟩ := h.str hv
    cases h3; rfl

theorem Load35 {w : World} {hb : Nat} {V : Value} {hp : List Nd} (M : MH w.heap hb V hp) {code : List UInt8} {ns : List Nd} (hl : Lays code hp.length ns) (hc : code.length ≤ 48) (h64 : hp.length ≤ 64) :
    Ret Tryz.prog 35 [ptr hb, S code] w (MLoadPost hb V hp ns w) := by
  have hns : ns.length ≤ 48 := by obtain ⟨k, env, h⟩ := hl; have := (h.facts (envLt0 _)).2.2.2.2.2; simp at this; omega
  obtain ⟨k, env9, hld⟩ := id hl
  obtain rfl := lays_root hld
  have hbl := M.blk.lt
  obtain ⟨a0, cap0, rfl⟩ := M.own.form
  refine ret_of Tryz.func35 rfl Tryz.ntmps35 rfl ?_
  refine c_seq (fun K1 hK1 => ?_)
  refine c_reg ?_ -- region 0 heapm.go:108
  refine wl (ro_assign rfl) ?_
  refine wl (ro_assign rfl) ?_
  refine wl_nil (x_then (hK1 _ _ ?_))
  clear hK1 K1
  refine c_seq (fun K2 hK2 => ?_)
  refine c_seq (fun K3 hK3 => ?_)
  refine c_reg ?_ -- region 1 heapm.go:109
  refine wl (ro_move rfl) ?_
  refine wl (ro_lenS rfl st_9) ?_
  refine wl (ro_cmp (r := false) rfl rfl (by simp; omega)) ?_
  refine wl_nil (x_then (hK3 _ _ ?_))
  clear hK3 K3
  refine wc_condF rfl ?_
  refine c_skip (x_then (hK2 _ _ ?_))
  clear hK2 K2
  refine forget [(0, _), (1, _)] ⟨rfl, rfl, trivial⟩ (fun e => ?_)
  refine c_seq (fun K4 hK4 => ?_)
  refine c_reg ?_ -- region 3 heapm.go:112
  refine wl (ro_move rfl) ?_
  refine wl_call rfl en_60 (need60 hl hc) ?_
  rintro _ w1 ⟨rfl, F1⟩
  have M1 := M.none F1
  have hB := M1.blk
  refine wl (ro_assign rfl) ?_
  refine wl_nil (x_then (hK4 _ _ ?_))
  clear hK4 K4
  refine c_seq (fun K5 hK5 => ?_)
  refine c_seq (fun K6 hK6 => ?_)
  refine c_reg ?_ -- region 4 heapm.go:113
  refine wl (ro_move rfl) ?_
  refine wl (ro_cmp (r := false) rfl rfl (by simp)) ?_
  refine wl_nil (x_then (hK6 _ _ ?_))
  clear hK6 K6
  refine wc_condF rfl ?_
  refine c_skip (x_then (hK5 _ _ ?_))
  clear hK5 K5
  refine c_seq (fun K7 hK7 => ?_)
  refine c_seq (fun K8 hK8 => ?_)
  refine c_reg ?_ -- region 6 heapm.go:116
  refine wl (ro_move rfl) ?_
  refine wl (ro_nilCheck rfl) ?_
  refine wl (ro_fieldAddr (k := 0) rfl fo_121_0) ?_
  refine wl (ro_loadB rfl sc_118 (by assumption) rfl) ?_
  refine wl (ro_lenL rfl se_118) ?_
  refine wl (ro_move rfl) ?_
  refine wl (ro_arith rfl rfl rfl (Go.IntWalk.i64_in _ (by omega))) ?_
  refine wl (ro_cmp rfl rfl rfl) ?_
  refine wl_nil (x_then (hK8 _ _ ?_))
  clear hK8 K8
  refine wc_cond rfl (fun hc24 => ?_) (fun hc24 => ?_)
  · try simp only [decide_eq_true_eq, decide_eq_false_iff_not, Bool.not_eq_true', Bool.not_eq_false', Bool.not_eq_eq_eq_not, Bool.not_true, Bool.not_false, beq_iff_eq, bne_iff_ne, ne_eq, beq_eq_false_iff_ne, bne_eq_false_iff_eq, gt_iff_lt, ge_iff_le, Int.not_lt, Int.not_le] at hc24
    refine c_seq (fun K9 hK9 => ?_)
    refine c_reg ?_ -- region 7 heapm.go:117
    refine wl (ro_assign rfl) ?_
    refine wl (ro_assign rfl) ?_
    refine wl_nil (x_then (hK9 _ _ ?_))
    clear hK9 K9
    refine c_ret (x_thenR ?_)
    refine bp_ret Tryz.results35 rfl ?_
    unfold MLoadPost
    rw [if_pos (by omega)]
    exact ⟨rfl, F1⟩
  · try simp only [decide_eq_true_eq, decide_eq_false_iff_not, Bool.not_eq_true', Bool.not_eq_false', Bool.not_eq_eq_eq_not, Bool.not_true, Bool.not_false, beq_iff_eq, bne_iff_ne, ne_eq, beq_eq_false_iff_ne, bne_eq_false_iff_eq, gt_iff_lt, ge_iff_le, Int.not_lt, Int.not_le] at hc24
    refine c_skip (x_then (hK7 _ _ ?_))
    clear hK7 K7
    refine forget [(0, _), (1, _)] ⟨rfl, rfl, trivial⟩ (fun e => ?_)
    refine c_seq (fun K10 hK10 => ?_)
    refine c_reg ?_ -- region 8 heapm.go:119
    refine wl (ro_build rfl bld_122_0_1_2_3_4_5) ?_
    refine wle (eo_alloc ze_122) ?_
    refine wls (so_storeAggB rfl rfl (by simp [Value.oneCell', i32c, u8c, i64c, i8c]) sz_122 rfl (Blk.new _ _ _) (by simp)) ?_
    have F2 : Fram none' w1 _ := ((Fram.refl none' w1).thenAlloc (o := .cells [Value.int .i64 0, .int .i64 0, .int .i64 0, .int .i64 0, .int .i64 0, .int .i64 0].toArray 122)).thenSet (b := w1.heap.size) (cs := [Value.int .i64 (-1), .int .i64 (-1), .int .i64 (-1), .int .i64 (-1), .int .i64 (-1), .int .i64 (-1)].toArray) (.inr (Nat.le_refl _))
    have A2 := (Blk.new w1 [Value.int .i64 0, .int .i64 0, .int .i64 0, .int .i64 0, .int .i64 0, .int .i64 0] 122).set [Value.int .i64 (-1), .int .i64 (-1), .int .i64 (-1), .int .i64 (-1), .int .i64 (-1), .int .i64 (-1)]
    refine gen2 (A := fun w2 => Blk w2.heap w1.heap.size [Value.int .i64 (-1), .int .i64 (-1), .int .i64 (-1), .int .i64 (-1), .int .i64 (-1), .int .i64 (-1)] 122) (B := fun w2 => Fram none' w1 w2) (C := fun w2 => WL _ _ _ _ _ w2) A2 F2 ?_
    clear A2 F2
    intro w2 A2 F2
    have M2 := M1.none F2
    have B2 : BS hb w1.heap.size (.slice a0 hp.length cap0) hp env0 w2 := ⟨M2, ⟨_, A2, rfl, fun k hk => by match k, hk with | 0, _ | 1, _ | 2, _ | 3, _ | 4, _ | 5, _ => rfl⟩, rfl, envLt0 _⟩
    refine wl_nil (x_then (hK10 _ _ ?_))
    clear hK10 K10
    refine forget [(0, _), (1, _), (7, _)] ⟨rfl, rfl, rfl, trivial⟩ (fun e => ?_)
    refine c_seq (fun K11 hK11 => ?_)
    refine c_reg ?_ -- region 9 heapm.go:120
    refine wl (ro_move rfl) ?_
    refine wl (ro_move rfl) ?_
    refine wl_call rfl en_61 (build61 hc code.length 0 _ hp env0 hp.length [] env9 ns w2 (by simp) hld B2 (by omega)) ?_
    rintro _ w3 ⟨p', V3, rfl, _, _, B3, hV3, F3⟩
    refine wl (ro_move rfl) ?_
    refine wl (ro_extract rfl rfl) ?_
    refine wl (ro_extract rfl rfl) ?_
    refine wl (ro_assign rfl) ?_
    refine wl (ro_assign rfl) ?_
    refine wl_nil (x_then (hK11 _ _ ?_))
    clear hK11 K11
    refine forget [(8, _)] ⟨rfl, trivial⟩ (fun e => ?_)
    refine c_seq (fun K12 hK12 => ?_)
    refine c_reg ?_ -- region 10 heapm.go:121
    refine wl (ro_move rfl) ?_
    refine wl (ro_assign rfl) ?_
    refine wl (ro_assign rfl) ?_
    refine wl_nil (x_then (hK12 _ _ ?_))
    clear hK12 K12
    refine c_ret ?_
    refine bp_ret Tryz.results35 rfl ?_
    unfold MLoadPost
    rw [if_neg (by omega)]
    refine ⟨rfl, V3, B3.mh, ?_, ?_⟩
    · intro b hb'
      rcases hV3 b hb' with h | h
      · exact .inl h
      · exact .inr (Nat.le_trans (F1.trans F2).size h)
    · refine (F1.trans F2).mono (fun _ _ h => h.elim) |>.trans' F3 (fun k hk hx => ?_)
      have h1 := F1.size
      have h2 := F2.size
      rcases hx with hx | hx | hx | hx
      · exact .inl hx
      · omega
      · exact .inr hx
      · omega

end Go.Proofs.Qxb6500569aGreat
