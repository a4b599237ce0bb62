import Derived.Test.Qxb6500568aGreatDoorYz
import Derived.Test.Qxb6500568aGreatDoorJm
import Derived.Test.Qxb6500568aGreatDoorKm
import Derived.Test.Qxb6500568aGreatDoorKn
import Derived.Laws.StructEq
/- The towers as made. -/
namespace Go.Proofs.Qxb6500568aGreatDoor
open Ieee
set_option linter.unusedVariables false
set_option linter.unusedSimpArgs false
set_option linter.unusedSectionVars false

theorem eqAns_run (A : Ans) (w : World) : (Op.equalIn (9999 + 1) 56 (.agg (anc A).toArray) (.agg (anc A).toArray)).run Tryz.prog w = .ok true w := by
  have hu : Tryz.prog.underlying 56 = some (.struct (Tryz.prog.fieldsOf 56)) := by unfold Program.fieldsOf; rw [Tryz.underlying56]
  have i54 : Tryz.prog.underlying 54 = some (.int .i64) := intB_spec (show intB Tryz.prog 54 .i64 = true by kernel_rfl)
  rw [run_equalIn_struct w 9999 56 _ _ hu (by kernel_rfl)]
  unfold Program.fieldsOf
  rw [Tryz.underlying56]
  have e54 : ∀ a : Int, (Op.equalIn 9999 54 (.int .i64 a) (.int .i64 a)).run Tryz.prog w = .ok true w := fun a => by rw [run_equalIn_int w 9998 54 .i64 .i64 a a i54]; simp
  have e3 : ∀ a : Int, (Op.equalIn 9999 3 (.int .i64 a) (.int .i64 a)).run Tryz.prog w = .ok true w := fun a => by rw [run_equalIn_int w 9998 3 .i64 .i64 a a Tryz.underlying3]; simp
  have e9 : ∀ a : ByteArray, (Op.equalIn 9999 9 (.string a) (.string a)).run Tryz.prog w = .ok true w := fun a => by rw [run_equalIn_string w 9998 9 a a Tryz.underlying9]; simp
  simp [Op.eqFields, part, anc, i64c, S, e54, e3, e9]
theorem ro_eqAns {n : Nat} {e : Nat → Option Value} {w : World} {x y : Operand} {t' : TypeId} {A : Ans} (hx : evO n e x = some (.agg (anc A).toArray)) (hy : evO n e y = some (.agg (anc A).toArray)) : RO Tryz.prog n e w (.binOp .eql 56 x y t') (.bool true) := by
  intro ds dst ty ps af g
  have hg : Tryz.prog.eqGuardType Tryz.prog.depth 56 = false := by kernel_rfl
  have key : (Op.equal 56 (.agg (anc A).toArray) (.agg (anc A).toArray)).run Tryz.prog w = .ok true w := eqAns_run A w
  simp [execOp, evO_eval hx, evO_eval hy, eqGuard, hg, binOp, key]
theorem anc_one (A : Ans) : ∀ q ∈ anc A, q.oneCell' = true := by simp [anc, Value.oneCell', i64c, S]
theorem New15 {w : World} {nb : Nat} : Ret Tryz.prog 15 [ptr nb] w (fun v w' => ∃ sb, v = ptr sb ∧ w.heap.size ≤ sb ∧ Blk w'.heap sb [ptr nb, .slice none 0 0, .slice none 0 0] 79 ∧ Fram none' w w') := by
  have hF : Fram none' w w := Fram.refl _ _
  refine ret_of Tryz.func15 rfl Tryz.ntmps15 rfl ?_
  refine c_seq (fun K1 hK1 => ?_)
  refine c_reg ?_ -- region 0 syn.go:18
  refine wl (ro_assign rfl) ?_
  refine wl_nil (x_then (hK1 _ _ ?_))
  clear hK1 K1
  refine forget [(0, _)] ⟨rfl, trivial⟩ (fun e => ?_)
  refine c_seq (fun K2 hK2 => ?_)
  refine c_reg ?_ -- region 1 syn.go:18
  refine wl (ro_move rfl) ?_
  refine wl (ro_build rfl bld_79_0) ?_
  refine wl_box rfl rfl (fun b5 w1 hbb5 h5 F1 => ?_)
  have hbsb5 := Nat.le_trans hF.size hbb5
  replace hF := hF.thenDrew.thenN F1
  refine wl (ro_assign rfl) ?_
  refine wl_nil (x_then (hK2 _ _ ?_))
  clear hK2 K2
  refine c_ret ?_
  refine bp_ret Tryz.results15 rfl ?_
  exact ⟨b5, rfl, hbsb5, h5, hF⟩
theorem New17 {w : World} {mb : Nat} : Ret Tryz.prog 17 [ptr mb] w (fun v w' => ∃ db, v = ptr db ∧ w.heap.size ≤ db ∧ Blk w'.heap db [ptr mb, i64c 0, .int .i64 0] 91 ∧ Fram none' w w') := by
  have hF : Fram none' w w := Fram.refl _ _
  refine ret_of Tryz.func17 rfl Tryz.ntmps17 rfl ?_
  refine c_seq (fun K1 hK1 => ?_)
  refine c_reg ?_ -- region 0 co.go:33
  refine wl (ro_assign rfl) ?_
  refine wl_nil (x_then (hK1 _ _ ?_))
  clear hK1 K1
  refine forget [(0, _)] ⟨rfl, trivial⟩ (fun e => ?_)
  refine c_seq (fun K2 hK2 => ?_)
  refine c_reg ?_ -- region 1 co.go:33
  refine wl (ro_move rfl) ?_
  refine wl (ro_build rfl bld_91_0) ?_
  refine wl_box rfl rfl (fun b5 w1 hbb5 h5 F1 => ?_)
  have hbsb5 := Nat.le_trans hF.size hbb5
  replace hF := hF.thenDrew.thenN F1
  refine wl (ro_assign rfl) ?_
  refine wl_nil (x_then (hK2 _ _ ?_))
  clear hK2 K2
  refine c_ret ?_
  refine bp_ret Tryz.results17 rfl ?_
  exact ⟨b5, rfl, hbsb5, h5, hF⟩
theorem New19 {w : World} : Ret Tryz.prog 19 [] w (fun v w' => ∃ nn, v = ptr nn ∧ w.heap.size ≤ nn ∧ Fram none' w w') := by
  have hF : Fram none' w w := Fram.refl _ _
  refine ret_of Tryz.func19 rfl Tryz.ntmps19 rfl ?_
  refine c_seq (fun K1 hK1 => ?_)
  refine c_reg ?_ -- region 0 numm.go:10
  refine wl (ro_assign rfl) ?_
  refine wl_nil (x_then (hK1 _ _ ?_))
  clear hK1 K1
  refine forget [] trivial (fun e => ?_)
  refine c_seq (fun K2 hK2 => ?_)
  refine c_reg ?_ -- region 1 numm.go:10
  refine wl (ro_build rfl bld_96) ?_
  refine wl_box rfl rfl (fun b2 w1 hbb2 h2 F1 => ?_)
  have hbsb2 := Nat.le_trans hF.size hbb2
  replace hF := hF.thenDrew.thenN F1
  refine wl (ro_assign rfl) ?_
  refine wl_nil (x_then (hK2 _ _ ?_))
  clear hK2 K2
  refine c_ret ?_
  refine bp_ret Tryz.results19 rfl ?_
  exact ⟨b2, rfl, hbsb2, hF⟩
theorem New21 {w : World} {nn : Nat} : Ret Tryz.prog 21 [ptr nn] w (fun v w' => ∃ sb, v = ptr sb ∧ w.heap.size ≤ sb ∧ Blk w'.heap sb [ptr nn] 101 ∧ Fram none' w w') := by
  have hF : Fram none' w w := Fram.refl _ _
  refine ret_of Tryz.func21 rfl Tryz.ntmps21 rfl ?_
  refine c_seq (fun K1 hK1 => ?_)
  refine c_reg ?_ -- region 0 syntaxm.go:13
  refine wl (ro_assign rfl) ?_
  refine wl_nil (x_then (hK1 _ _ ?_))
  clear hK1 K1
  refine forget [(0, _)] ⟨rfl, trivial⟩ (fun e => ?_)
  refine c_seq (fun K2 hK2 => ?_)
  refine c_reg ?_ -- region 1 syntaxm.go:13
  refine wl (ro_move rfl) ?_
  refine wl (ro_build rfl bld_101_0) ?_
  refine wl_box rfl rfl (fun b5 w1 hbb5 h5 F1 => ?_)
  have hbsb5 := Nat.le_trans hF.size hbb5
  replace hF := hF.thenDrew.thenN F1
  refine wl (ro_assign rfl) ?_
  refine wl_nil (x_then (hK2 _ _ ?_))
  clear hK2 K2
  refine c_ret ?_
  refine bp_ret Tryz.results21 rfl ?_
  exact ⟨b5, rfl, hbsb5, h5, hF⟩
/-- the model's tower. -/
theorem New6 {w : World} : Ret Tryz.prog 6 [] w (fun v w' => ∃ cb nn tb sb, v = ptr cb ∧ (w.heap.size ≤ tb ∧ w.heap.size ≤ cb ∧ w.heap.size ≤ sb) ∧ Blk w'.heap cb [ptr nn, ptr tb, ptr sb] 53 ∧ Blk w'.heap sb [ptr nn] 101 ∧ (∀ ow, ow tb = 40 → MTV w' ow (ptr nn) tb []) ∧ Fram none' w w') := by
  have hF : Fram none' w w := Fram.refl _ _
  refine ret_of Tryz.func6 rfl Tryz.ntmps6 rfl ?_
  refine c_seq (fun K1 hK1 => ?_)
  refine c_reg ?_ -- region 0 compm.go:92
  refine wl (ro_assign rfl) ?_
  refine wl_nil (x_then (hK1 _ _ ?_))
  clear hK1 K1
  refine forget [] trivial (fun e => ?_)
  refine c_seq (fun K2 hK2 => ?_)
  refine c_reg ?_ -- region 1 compm.go:93
  refine wl_call rfl en_19 (New19) ?_
  rintro _ w1 ⟨nn, rfl, hn, G1⟩
  replace hF := hF.thenN G1
  refine wl (ro_assign rfl) ?_
  refine wl_nil (x_then (hK2 _ _ ?_))
  clear hK2 K2
  refine forget [(1, _)] ⟨rfl, trivial⟩ (fun e => ?_)
  refine c_seq (fun K3 hK3 => ?_)
  refine c_reg ?_ -- region 2 compm.go:94
  refine wl (ro_move rfl) ?_
  refine wl_call rfl en_20 (New20) ?_
  rintro _ w2 ⟨⟨tb, rfl, hn2, hlt2, hm2⟩, G2⟩
  have hs2 := hF.size
  replace hF := hF.thenN G2
  refine wl (ro_assign rfl) ?_
  refine wl_nil (x_then (hK3 _ _ ?_))
  clear hK3 K3
  refine forget [(1, _), (2, _)] ⟨rfl, rfl, trivial⟩ (fun e => ?_)
  refine c_seq (fun K4 hK4 => ?_)
  refine c_reg ?_ -- region 3 compm.go:95
  refine wl (ro_move rfl) ?_
  refine wl_call rfl en_21 (New21) ?_
  rintro _ w3 ⟨sb, rfl, hn3, h3, G3⟩
  have hs3 := hF.size
  replace hF := hF.thenN G3
  refine wl (ro_assign rfl) ?_
  refine wl_nil (x_then (hK4 _ _ ?_))
  clear hK4 K4
  refine forget [(1, _), (2, _), (3, _)] ⟨rfl, rfl, rfl, trivial⟩ (fun e => ?_)
  refine c_seq (fun K5 hK5 => ?_)
  refine c_reg ?_ -- region 4 compm.go:96
  refine wl (ro_move rfl) ?_
  refine wl (ro_move rfl) ?_
  refine wl (ro_move rfl) ?_
  refine wl (ro_build rfl bld_53_0_1_2) ?_
  refine wl_box rfl rfl (fun b13 w1 hbb13 h13 F1 => ?_)
  have hbsb13 := Nat.le_trans hF.size hbb13
  have hnesbb13 : sb < b13 := Nat.lt_of_lt_of_le h3.lt hbb13
  replace hF := hF.thenDrew.thenN F1
  replace h3 := F1.blkN h3
  refine wl (ro_assign rfl) ?_
  refine wl_nil (x_then (hK5 _ _ ?_))
  clear hK5 K5
  refine c_ret ?_
  refine bp_ret Tryz.results6 rfl ?_
  exact ⟨b13, nn, tb, sb, rfl, ⟨by omega, hbsb13, by omega⟩, h13, h3, fun ow q ↦ ((hm2 ow q).farN G3).farN F1, hF⟩
def tcT (t : Nat) : Prop := cpT t ∨ t = 301 ∨ t = 302 ∨ syT t
theorem im_tc {t : Nat} (h : imT t) : tcT t := by
  rcases h with h | h | h
  · exact .inr (.inr (.inr h))
  · exact .inl h
  · exact .inr (.inr (.inl h))
theorem tc66 : ¬ tcT 66 := by unfold tcT cpT syT; omega
theorem tc9 : ¬ tcT 9 := by unfold tcT cpT syT; omega
/-- a tower in memory: oc: the compiler's tags, ov: the machine's. -/
structure TowV (cb sb db mb tb nb xb bb : Nat) (w : World) (oc ov : Nat → Nat) : Prop where
  c : CpR w oc cb (ptr sb) (ptr db)
  s : SyV w oc sb
  m : VT ⟨mb, tb, ptr nb, ptr xb⟩ nb xb w ov vl0 []
  n1 : Blk w.heap nb [.slice (some ⟨bb, 0, none⟩) 24 24] 72
  n2 : ∃ l, Blk w.heap bb l 5 ∧ l.length = 24
  tn : ov nb = 66 ∧ ov bb = 66 ∧ ov db = 66
  cn : ¬ tcT (oc nb) ∧ ¬ tcT (oc bb) ∧ ¬ tcT (oc db)
  d : Blk w.heap db [ptr mb, i64c 0, .int .i64 0] 91
  sep : ∀ b, vtT (ov b) → ¬ tcT (oc b)
theorem im66 : ¬ imT 66 := by unfold imT syT cpT; omega
theorem im9 : ¬ imT 9 := by unfold imT syT cpT; omega
theorem vt66 : ¬ vtT 66 := by unfold vtT vmT rtag; omega
theorem New5 {w : World} {ow : Nat → Nat} (ho : ∀ b, ow b = 9 ∨ ow b = 66) (hd : ∀ b, w.heap.size ≤ b → ow b = 66) : Ret Tryz.prog 5 [] w (fun v w' => ∃ cb sb db mb tb nb xb bb oc ov, v = ptr cb ∧ TowV cb sb db mb tb nb xb bb w' oc ov ∧ Xt w ow oc ∧ (∀ b, w'.heap.size ≤ b → oc b = 66 ∧ ov b = 66) ∧ (∀ b, b < w.heap.size → ov b = 66) ∧ w.heap.size ≤ db ∧ w.heap.size ≤ nb ∧ w.heap.size ≤ bb ∧ Fram none' w w') := by
  refine ret_of Tryz.func5 rfl Tryz.ntmps5 rfl ?_
  refine c_seq (fun K1 hK1 => ?_)
  refine c_reg ?_ -- region 0 tower.go:14
  refine wl (ro_assign rfl) ?_
  refine wl_nil (x_then (hK1 _ _ ?_))
  clear hK1 K1
  refine forget [] trivial (fun e => ?_)
  refine c_seq (fun K2 hK2 => ?_)
  refine c_reg ?_ -- region 1 tower.go:15
  refine wl_call rfl en_13 (New13) ?_
  rintro _ w1 ⟨nb, bb, lN, rfl, hn1, hn2, hne, hN1, hN2, hN3, F1⟩
  refine wl (ro_assign rfl) ?_
  refine wl_nil (x_then (hK2 _ _ ?_))
  clear hK2 K2
  refine forget [(1, _)] ⟨rfl, trivial⟩ (fun e => ?_)
  refine c_seq (fun K3 hK3 => ?_)
  refine c_reg ?_ -- region 2 tower.go:16
  refine wl (ro_move rfl) ?_
  refine wl_call rfl en_14 (New14 (nb := nb)) ?_
  rintro _ w2 ⟨⟨xb, rfl, hx1, hx2, hx3⟩, F2⟩
  refine wl (ro_assign rfl) ?_
  refine wl_nil (x_then (hK3 _ _ ?_))
  clear hK3 K3
  refine forget [(1, _), (2, _)] ⟨rfl, rfl, trivial⟩ (fun e => ?_)
  refine c_seq (fun K4 hK4 => ?_)
  refine c_reg ?_ -- region 3 tower.go:17
  refine wl (ro_move rfl) ?_
  refine wl_call rfl en_15 (New15 (nb := nb)) ?_
  rintro _ w3 ⟨sb, rfl, hs1, hs2, F3⟩
  obtain ⟨ov0, hov0⟩ : ∃ f : Nat → Nat, f = ot (fun _ ↦ 66) xb 50 := ⟨_, rfl⟩
  refine wl (ro_assign rfl) ?_
  refine wl_nil (x_then (hK4 _ _ ?_))
  clear hK4 K4
  refine forget [(1, _), (2, _), (3, _)] ⟨rfl, rfl, rfl, trivial⟩ (fun e => ?_)
  refine c_seq (fun K5 hK5 => ?_)
  refine c_reg ?_ -- region 4 tower.go:18
  refine wl (ro_move rfl) ?_
  refine wl (ro_move rfl) ?_
  refine wl_call rfl en_16 (New16 (ow := ov0) (nb := nb) (tp := xb)) ?_
  rintro _ w4 ⟨mb, tb, rfl, hm1, F4, ov, hxv, hm2⟩
  refine wl (ro_assign rfl) ?_
  refine wl_nil (x_then (hK5 _ _ ?_))
  clear hK5 K5
  refine forget [(3, _), (4, _)] ⟨rfl, rfl, trivial⟩ (fun e => ?_)
  refine c_seq (fun K6 hK6 => ?_)
  refine c_reg ?_ -- region 5 tower.go:19
  refine wl (ro_move rfl) ?_
  refine wl_call rfl en_17 (New17 (mb := mb)) ?_
  rintro _ w5 ⟨db, rfl, hd1, hd2, F5⟩
  obtain ⟨oc0, hoc0⟩ : ∃ f : Nat → Nat, f = ot ow sb 60 := ⟨_, rfl⟩
  refine wl (ro_assign rfl) ?_
  refine wl_nil (x_then (hK6 _ _ ?_))
  clear hK6 K6
  refine forget [(3, _), (5, _)] ⟨rfl, rfl, trivial⟩ (fun e => ?_)
  refine c_seq (fun K7 hK7 => ?_)
  refine c_reg ?_ -- region 6 tower.go:20
  refine wl (ro_move rfl) ?_
  refine wl (ro_move rfl) ?_
  refine wl_call rfl en_18 (New18 (ow := oc0) (sb := sb) (db := db)) ?_
  rintro _ w6 ⟨cb, rfl, hc1, F6, oc, hxc, hc2⟩
  refine wl (ro_assign rfl) ?_
  refine wl_nil (x_then (hK7 _ _ ?_))
  clear hK7 K7
  refine c_ret ?_
  refine bp_ret Tryz.results5 rfl ?_
  have e1 := F1.size
  have e2 := F2.size
  have e3 := F3.size
  have e4 := F4.size
  have e5 := F5.size
  have e6 := F6.size
  have l1 := hN1.lt
  have l2 := hN2.lt
  have l3 := hs2.lt
  have l5 := hd2.lt
  have hvd : ∀ b, w4.heap.size ≤ b → ov b = 66 := by obtain ⟨V, U, op⟩ := hm2; exact op.df
  have hv : ∀ b, b < w3.heap.size → ov b = if b = xb then 50 else 66 := fun b hb ↦ by rw [hxv b hb, hov0]; rfl
  have hc : ∀ b, b < w5.heap.size → oc b = if b = sb then 60 else ow b := fun b hb ↦ by rw [hxc b hb, hoc0]; rfl
  have hcc : ∀ b, b < w5.heap.size → cut66 w6 oc b = if b = sb then 60 else ow b := fun b hb ↦ by rw [cut66_xt w6 oc b (by omega)]; exact hc b hb
  refine ⟨cb, sb, db, mb, tb, nb, xb, bb, cut66 w6 oc, ov, rfl, ⟨hc2.far (Fram.refl none' _) (fun _ _ _ q ↦ q) (cut66_xt w6 oc), ?_, ⟨(hm2.thruN F5).thruN F6, ?_⟩, ?_, ⟨lN, ?_, hN3⟩, ⟨?_, ?_, ?_⟩, ⟨?_, ?_, ?_⟩, ?_, ?_⟩, ?_, ?_, ?_, by omega, by omega, by omega, ((((F1.trans F2).trans F3).trans F4).trans F5).trans F6⟩
  · exact ⟨_, _, _, 0, [], 0, [], F6.blkN (F5.blkN (F4.blkN hs2)), by rw [hcc sb (by omega), if_pos rfl], OwT.nil _ _ _ _ _, OwT.nil _ _ _ _ _, .inl rfl, .inl rfl⟩
  · exact ((((hx3 ov (by rw [hv xb (by omega), if_pos rfl])).farN F3).farN F4).farN F5).farN F6
  · exact F6.blkN (F5.blkN (F4.blkN (F3.blkN (F2.blkN hN1))))
  · exact F6.blkN (F5.blkN (F4.blkN (F3.blkN (F2.blkN hN2))))
  · rw [hv nb (by omega), if_neg (by omega)]
  · rw [hv bb (by omega), if_neg (by omega)]
  · exact hvd db (by omega)
  · rw [hcc nb (by omega), if_neg (by omega)]
    rcases ho nb with q | q <;> rw [q]
    · exact tc9
    · exact tc66
  · rw [hcc bb (by omega), if_neg (by omega)]
    rcases ho bb with q | q <;> rw [q]
    · exact tc9
    · exact tc66
  · rw [hcc db (by omega), if_neg (by omega)]
    rcases ho db with q | q <;> rw [q]
    · exact tc9
    · exact tc66
  · exact F6.blkN hd2
  · intro b q
    by_cases h4 : b < w4.heap.size
    · rw [hcc b (by omega)]
      split
      · rename_i h; subst h
        rw [hv b (by omega), if_neg (by omega)] at q
        exact absurd q vt66
      · rcases ho b with q | q <;> rw [q]
        · exact tc9
        · exact tc66
    · rw [hvd b (by omega)] at q
      exact absurd q vt66
  · intro b hb
    rw [hcc b (by omega), if_neg (by omega)]
  · intro b hb
    exact ⟨cut66_df _ _ b hb, hvd b (by omega)⟩
  · intro b hb
    rw [hv b (by omega), if_neg (by omega)]
/-- the driver alone. -/
theorem New9 {w : World} : Ret Tryz.prog 9 [] w (fun v w' => ∃ db mb tb nb xb bb ov, v = ptr db ∧ VT ⟨mb, tb, ptr nb, ptr xb⟩ nb xb w' ov vl0 [] ∧ Blk w'.heap nb [.slice (some ⟨bb, 0, none⟩) 24 24] 72 ∧ (∃ l, Blk w'.heap bb l 5 ∧ l.length = 24) ∧ (ov nb = 66 ∧ ov bb = 66 ∧ ov db = 66) ∧ Blk w'.heap db [ptr mb, i64c 0, .int .i64 0] 91 ∧ (∀ b, b < w.heap.size → ov b = 66) ∧ w.heap.size ≤ db ∧ w.heap.size ≤ nb ∧ w.heap.size ≤ bb ∧ Fram none' w w') := by
  refine ret_of Tryz.func9 rfl Tryz.ntmps9 rfl ?_
  refine c_seq (fun K1 hK1 => ?_)
  refine c_reg ?_ -- region 0 law.go:55
  refine wl (ro_assign rfl) ?_
  refine wl_nil (x_then (hK1 _ _ ?_))
  clear hK1 K1
  refine forget [] trivial (fun e => ?_)
  refine c_seq (fun K2 hK2 => ?_)
  refine c_reg ?_ -- region 1 law.go:56
  refine wl_call rfl en_13 (New13) ?_
  rintro _ w1 ⟨nb, bb, lN, rfl, hn1, hn2, hne, hN1, hN2, hN3, F1⟩
  refine wl (ro_assign rfl) ?_
  refine wl_nil (x_then (hK2 _ _ ?_))
  clear hK2 K2
  refine forget [(1, _)] ⟨rfl, trivial⟩ (fun e => ?_)
  refine c_seq (fun K3 hK3 => ?_)
  refine c_reg ?_ -- region 2 law.go:57
  refine wl (ro_move rfl) ?_
  refine wl_call rfl en_14 (New14 (nb := nb)) ?_
  rintro _ w2 ⟨⟨xb, rfl, hx1, hx2, hx3⟩, F2⟩
  obtain ⟨ov0, hov0⟩ : ∃ f : Nat → Nat, f = ot (fun _ ↦ 66) xb 50 := ⟨_, rfl⟩
  refine wl (ro_assign rfl) ?_
  refine wl_nil (x_then (hK3 _ _ ?_))
  clear hK3 K3
  refine forget [(1, _), (2, _)] ⟨rfl, rfl, trivial⟩ (fun e => ?_)
  refine c_seq (fun K4 hK4 => ?_)
  refine c_reg ?_ -- region 3 law.go:58
  refine wl (ro_move rfl) ?_
  refine wl (ro_move rfl) ?_
  refine wl_call rfl en_16 (New16 (ow := ov0) (nb := nb) (tp := xb)) ?_
  rintro _ w4 ⟨mb, tb, rfl, hm1, F4, ov, hxv, hm2⟩
  refine wl (ro_assign rfl) ?_
  refine wl_nil (x_then (hK4 _ _ ?_))
  clear hK4 K4
  refine forget [(3, _)] ⟨rfl, trivial⟩ (fun e => ?_)
  refine c_seq (fun K5 hK5 => ?_)
  refine c_reg ?_ -- region 4 law.go:59
  refine wl (ro_move rfl) ?_
  refine wl_call rfl en_17 (New17 (mb := mb)) ?_
  rintro _ w5 ⟨db, rfl, hd1, hd2, F5⟩
  refine wl (ro_assign rfl) ?_
  refine wl_nil (x_then (hK5 _ _ ?_))
  clear hK5 K5
  refine c_ret ?_
  refine bp_ret Tryz.results9 rfl ?_
  have e1 := F1.size
  have e2 := F2.size
  have e4 := F4.size
  have e5 := F5.size
  have l1 := hN1.lt
  have l2 := hN2.lt
  have l5 := hd2.lt
  have hvd : ∀ b, w4.heap.size ≤ b → ov b = 66 := by obtain ⟨V, U, op⟩ := hm2; exact op.df
  have hv : ∀ b, b < w2.heap.size → ov b = if b = xb then 50 else 66 := fun b hb ↦ by rw [hxv b hb, hov0]; rfl
  refine ⟨db, mb, tb, nb, xb, bb, ov, rfl, ⟨hm2.thruN F5, ?_⟩, ?_, ⟨lN, ?_, hN3⟩, ⟨?_, ?_, ?_⟩, hd2, ?_, by omega, by omega, by omega, ((F1.trans F2).trans F4).trans F5⟩
  · exact ((hx3 ov (by rw [hv xb (by omega), if_pos rfl])).farN F4).farN F5
  · exact F5.blkN (F4.blkN (F2.blkN hN1))
  · exact F5.blkN (F4.blkN (F2.blkN hN2))
  · rw [hv nb (by omega), if_neg (by omega)]
  · rw [hv bb (by omega), if_neg (by omega)]
  · exact hvd db (by omega)
  · intro b hb
    rw [hv b (by omega), if_neg (by omega)]
end Go.Proofs.Qxb6500568aGreatDoor
