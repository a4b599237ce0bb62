import Derived.Test.Qxb6500567aGreatEb
import Derived.Test.Qxb6500567aGreatFh
/- The model's simplifier: the builder's run; add, child, option. -/
namespace Go.Proofs.Qxb6500567aGreat
set_option linter.unusedVariables false
set_option linter.unusedSimpArgs false

/-- The run of the model's builder: n nodes are laid. -/
structure MBd (w : World) (rb : Nat) (tc : List Value) (n : Nat) (VN : Value) : Prop where
  blk : Blk w.heap rb (tc ++ [VN]) 193
  own : ∃ xs, Own w.heap VN 89 11 n xs ∧ ∀ u ∈ xs, u.oneCell' = true

/-- It has grown. -/
def GR (w : World) (rb : Nat) (tc : List Value) (VN : Value) (n' : Nat) (w' : World) : Prop := ∃ VN', MBd w' rb tc n' VN' ∧ nob VN VN' w ∧ Fram (mfr rb VN) w w'

theorem MBd.framN {w w' : World} {rb n : Nat} {tc : List Value} {VN : Value} (h : MBd w rb tc n VN) (f : Fram none' w w') : MBd w' rb tc n VN := by
  obtain ⟨h1, xs, h2, h3⟩ := h
  exact ⟨h1.framN f, xs, h2.fram f (fun _ _ h => h), h3⟩

abbrev tcs (nb tl cap : Nat) (z1 z2 z3 z4 VN : Value) : List Value := [.slice (some ⟨nb, 0, none⟩) tl cap, z1, z2, z3, z4, VN]

theorem add119 {w : World} {rb n nb tl cap : Nat} {z1 z2 z3 z4 VN : Value} {cs : List Value} (M : MBd w rb (trc nb tl cap z1 z2 z3 z4) n VN) (hn : n ≤ 1000) (hcl : cs.length = 11) (hc : ∀ u ∈ cs, u.oneCell' = true) (hz : ∀ u ∈ [z1, z2, z3, z4], u.oneCell' = true) :
    Ret Tryz.prog 119 [ptr rb, .agg cs.toArray] w (fun v w' => v = i64c n ∧ GR w rb (trc nb tl cap z1 z2 z3 z4) VN (n + 1) w') := by
  have hB := M.blk
  have hF : Fram (mfr rb VN) w w := Fram.refl _ _
  obtain ⟨xs, hon, hxc⟩ := M.own
  obtain ⟨aV, cV, hVN⟩ := hon.form
  have hrw := hB.lt
  subst hVN
  refine ret_of Tryz.func119 rfl Tryz.ntmps119 rfl ?_
  refine c_seq (fun K1 hK1 => ?_)
  refine c_reg ?_ -- region 0 simpm.go:140
  refine wl_box (cs := cs) rfl rfl (fun ab w1 hbab hA F1 => ?_)
  have hnerbab : rb < ab := Nat.lt_of_lt_of_le hB.lt hbab
  have hbsab := Nat.le_trans hF.size hbab
  replace hB := F1.blkN hB
  replace hF := hF.thenDrew.thenN F1
  replace hon := hon.fram F1 (fun _ _ h => h)
  refine wl (ro_assign rfl) ?_
  refine wl_nil (x_then (hK1 _ _ ?_))
  clear hK1 K1
  refine forget [(0, _), (3, _)] ⟨rfl, rfl, trivial⟩ (fun e => ?_)
  refine c_seq (fun K2 hK2 => ?_)
  refine c_piL 10 [(0, false), (1, false), (2, false), (3, false), (4, false), (5, false), (6, true), (7, true), (8, false), (9, false)] (fun w' => Blk w'.heap rb (tcs nb tl cap z1 z2 z3 z4 (.slice aV n cV)) 193 ∧ Blk w'.heap ab cs 89) mixed (by kernel_rfl) rfl (by kernel_rfl) (po_then (po_bp)) (⟨hB, hA⟩) ?_ -- region 1 simpm.go:141
  refine ql_ro rfl (fun w hS => ro_move rfl) ?_
  refine ql_ro rfl (fun w hS => ro_move rfl) ?_
  refine ql_ro rfl (fun w hS => ro_nilCheck rfl) ?_
  refine ql_ro rfl (fun w hS => ro_fieldAddr (k := 5) rfl fo_193_1) ?_
  refine ql_ro rfl (fun w hS => ro_loadB rfl sc_98 (hS.1) (rfl)) ?_
  refine ql_ro rfl (fun w hS => ro_loadAggB rfl ag_89 (hS.2) (hcl) ((by rw [List.drop_zero, List.take_of_length_le (by omega)]))) ?_
  skip
  have hbn : ∀ b, (Value.slice aV n cV).ownBlock = some b → b ≠ rb := fun b hb => hon.neblk hB (by decide) b hb
  have hban : ∀ b, (Value.slice aV n cV).ownBlock = some b → b ≠ ab := fun b hb he => by
    obtain ⟨xs0, h0, _⟩ := M.own
    have := h0.lt hb; omega
  refine ql_bsapp (w := { w1 with drawn := w1.drawn + 1 }) rfl rfl rfl rfl rfl rfl se_98 zx_89 by_89 rfl rfl hcl hc hon (by omega) (by omega) (fun w2 F ↦ ⟨F.blkN hB, F.blkN hA⟩) (fun w2 F ↦ ⟨F.blkF hB (fun h => hbn _ h rfl), F.blkF hA (fun h => hban _ h rfl)⟩) (fun VX w3 hon3 F3 hnb3 ↦ ?_)
  replace hB := F3.blkF hB (fun h => hbn _ h rfl)
  replace hA := F3.blkF hA (fun h => hban _ h rfl)
  have hF3 : Fram (mfr rb (.slice aV n cV)) w w3 := hF.transG F3 (fun k _ hk => .inr hk)
  have hs1 := hF.size
  clear hF
  have hF := hF3
  obtain ⟨aX, cX, rfl⟩ := hon3.form
  have hmr : mfr rb (.slice aV n cV) rb := .inl rfl
  have hbn3 : ∀ b, (Value.slice aX (n + 1) cX).ownBlock = some b → b ≠ rb := fun b hb => hon3.neblk hB (by decide) b hb
  refine ql_ro rfl (fun w hS => ro_nilCheck rfl) ?_
  refine ql_ro rfl (fun w hS => ro_fieldAddr (k := 5) rfl fo_193_1) ?_
  refine ql_put rfl rfl rfl rfl sz_98 hB ((by simp)) (rfl) (fun w2 hB F2 => ?_)
  replace hF := hF.thenDrew.thenO F2 (by first | exact .inr (by omega) | exact .inl rfl | exact .inl (by assumption))
  replace hA := F2.blkO hA (by omega)
  refine x_then (hK2 _ _ ?_)
  clear hK2 K2
  refine forget [(0, _)] ⟨rfl, trivial⟩ (fun e => ?_)
  refine c_seq (fun K3 hK3 => ?_)
  refine c_reg ?_ -- region 2 simpm.go:142
  refine wl (ro_move rfl) ?_
  refine wl (ro_nilCheck rfl) ?_
  refine wl (ro_fieldAddr (k := 5) rfl fo_193_1) ?_
  refine wl (ro_loadB rfl sc_98 (hB) (rfl)) ?_
  refine wl (ro_lenL rfl se_98) ?_
  refine wl (ro_arith (r := (n : Int)) rfl rfl (by simp) (Go.IntWalk.i64_in _ (by omega))) ?_
  refine wl (ro_assign rfl) ?_
  refine wl_nil (x_then (hK3 _ _ ?_))
  clear hK3 K3
  refine c_ret ?_
  refine bp_ret Tryz.results119 rfl ?_
  exact ⟨rfl, _, ⟨hB, _, hon3.fram F2 (fun b hb he => hbn3 b hb he), fun u hu => (List.mem_append.1 hu).elim (hxc u) (hc u)⟩, fun b hb => (hnb3 b hb).imp id (fun h => by have : w1.heap.size ≤ b := h; omega), hF⟩

end Go.Proofs.Qxb6500567aGreat
