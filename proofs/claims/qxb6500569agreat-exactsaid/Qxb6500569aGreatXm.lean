import Derived.Test.Qxb6500569aGreatXi
/- Clear and Halt of both machines. -/
namespace Go.Proofs.Qxb6500569aGreat
set_option linter.unusedVariables false
set_option linter.unusedSimpArgs false

theorem wl_clear {P : Program} {n : Nat} {e : Nat → Option Value} {ds : List Deferred} {w : World} {ops : Array Oper} {Q : Exit → Act → World → Prop} {rest : List Oper} {ty : TypeId} {ps : String} {af : Array Edge} {α : Type} [DecidableEq α] {kt : TypeId} {kv : α → Value} {t et r : Nat} {x : Operand} {l : List (α × Value)}
    (hx : evO n e x = some (.map (some r))) (ht : P.underlying t = some (.map kt et)) (hM : MapAt kv w.heap r l)
    (K : ∀ w1, MapAt kv w1.heap r ([] : List (α × Value)) → Fram (fun b => b = r) w w1 → WL P ops Q rest (Fr n e ds) w1) : WL P ops Q (⟨none, .call ⟨.builtin .clear, #[x], #[t]⟩, ty, ps, af, none⟩ :: rest) (Fr n e ds) w := by
  have hlt := hM.lt
  obtain ⟨es, c, h1, h2, h3, h4⟩ := hM
  refine wle0 (v := .tuple #[]) (w1 := setM w r (.map #[] c)) ?_ (K _ ⟨#[], c, ?_, rfl, by simp, by simp⟩ (setM_fram w r _))
  · intro ds dst ty ps af g
    simp [execOp, resolve, evO_eval hx, invoke, builtin, Builtin.clear_, run_underlying ht, run_getObjM h1, run_setObjM h1]
  · simp [setM, hlt]

theorem um_70 : Tryz.prog.underlying 70 = some (.map 157 159) := by kernel_rfl
theorem um_71 : Tryz.prog.underlying 71 = some (.map 163 159) := by kernel_rfl

theorem Clear84 {w : World} {pb : Nat} {cls : List Cl2} {F : Nat → Prop} (M : PrX w.heap pb cls F) : Ret Tryz.prog 84 [ptr pb] w (fun _ w' => PrX w'.heap pb [] F ∧ Fram F w w') := by
  obtain ⟨VC, clbs, ra, la, lo, lk, M⟩ := M
  obtain ⟨a, o, k, rfl, n1, n2, n3⟩ := M.r3
  have hB := M.blk
  have hma := M.ma
  have hmo := M.mo
  have hmk := M.mkk
  have hfa := M.fr a (by simp)
  have hfo := M.fr o (by simp)
  have hfk := M.fr k (by simp)
  simp only [List.getD_cons_zero, List.getD_cons_succ] at hB hma hmo hmk
  refine ret_of Tryz.func84 rfl Tryz.ntmps84 rfl ?_
  refine c_seq (fun K1 hK1 => ?_)
  refine c_reg ?_ -- region 0 prog.go:37
  refine wl (ro_move rfl) ?_
  refine wl (ro_nilCheck rfl) ?_
  refine wl (ro_fieldAddr (k := 0) rfl fo_74_0) ?_
  refine wls (so_storeB rfl rfl rfl sz_72 (hB) (by simp)) ?_
  have FS : Fram (fun b => b = pb) w _ := Fram.set w pb [.slice none 0 0, .map (some a), .map (some o), .map (some k)].toArray (.inl rfl)
  have hB1 := hB.set [.slice none 0 0, .map (some a), .map (some o), .map (some k)]
  have ha1 := hma.fram FS (fun he => hma.blk_ne hB he)
  have ho1 := hmo.fram FS (fun he => hmo.blk_ne hB he)
  have hk1 := hmk.fram FS (fun he => hmk.blk_ne hB he)
  have F1 : Fram F w _ := FS.mono (fun b _ h => h ▸ M.fp)
  refine gen2 (A := fun w1 => Blk w1.heap pb [.slice none 0 0, .map (some a), .map (some o), .map (some k)] 74 ∧ MapAt k2c w1.heap a la) (B := fun w1 => (MapAt k2c w1.heap o lo ∧ MapAt k4c w1.heap k lk) ∧ Fram F w w1) (C := fun w1 => WL _ _ _ _ _ w1) ⟨hB1, ha1⟩ ⟨⟨ho1, hk1⟩, F1⟩ ?_
  clear hB1 ha1 ho1 hk1 F1 FS
  rintro w1 ⟨hB1, ha1⟩ ⟨⟨ho1, hk1⟩, F1⟩
  refine wl_nil (x_then (hK1 _ _ ?_))
  clear hK1 K1
  refine forget [(0, _)] ⟨rfl, trivial⟩ (fun e => ?_)
  refine c_seq (fun K2 hK2 => ?_)
  refine c_reg ?_ -- region 1 prog.go:38
  refine wl (ro_move rfl) ?_
  refine wl (ro_nilCheck rfl) ?_
  refine wl (ro_fieldAddr (k := 1) rfl fo_74_1) ?_
  refine wl (ro_loadB rfl sc_70 (hB1) rfl) ?_
  refine wl_clear rfl um_70 ha1 ?_
  intro w2 ha2 FA
  have hB2 := hB1.fram FA (fun he => ha1.blk_ne hB1 he.symm)
  have ho2 := ho1.fram FA (fun he => n1 he.symm)
  have hk2 := hk1.fram FA (fun he => n2 he.symm)
  have F2 : Fram F w w2 := F1.trans (FA.mono (fun b _ h => h ▸ hfa))
  refine wl_nil (x_then (hK2 _ _ ?_))
  clear hK2 K2
  refine forget [(0, _)] ⟨rfl, trivial⟩ (fun e => ?_)
  refine c_seq (fun K3 hK3 => ?_)
  refine c_reg ?_ -- region 2 prog.go:39
  refine wl (ro_move rfl) ?_
  refine wl (ro_nilCheck rfl) ?_
  refine wl (ro_fieldAddr (k := 2) rfl fo_74_2) ?_
  refine wl (ro_loadB rfl sc_70 (hB2) rfl) ?_
  refine wl_clear rfl um_70 ho2 ?_
  intro w3 ho3 FO
  have hB3 := hB2.fram FO (fun he => ho2.blk_ne hB2 he.symm)
  have ha3 := ha2.fram FO (fun he => n1 he)
  have hk3 := hk2.fram FO (fun he => n3 he.symm)
  have F3 : Fram F w w3 := F2.trans (FO.mono (fun b _ h => h ▸ hfo))
  refine wl_nil (x_then (hK3 _ _ ?_))
  clear hK3 K3
  refine c_reg ?_ -- region 3 prog.go:40
  refine wl (ro_move rfl) ?_
  refine wl (ro_nilCheck rfl) ?_
  refine wl (ro_fieldAddr (k := 3) rfl fo_74_3) ?_
  refine wl (ro_loadB rfl sc_71 (hB3) rfl) ?_
  refine wl_clear rfl um_71 hk3 ?_
  intro w4 hk4 FK
  have hB4 := hB3.fram FK (fun he => hk3.blk_ne hB3 he.symm)
  have ha4 := ha3.fram FK (fun he => n2 he)
  have ho4 := ho3.fram FK (fun he => n3 he)
  have F4 : Fram F w w4 := F3.trans (FK.mono (fun b _ h => h ▸ hfk))
  refine wl_nil ?_
  refine bp_end Tryz.results84 rfl ?_
  refine ⟨⟨.slice none 0 0, [], [a, o, k], [], [], [], ⟨⟨_, _, _, rfl, n1, n2, n3⟩, hB4, Own.nil _ _ _, rfl, by simp, ha4, ho4, hk4, by simp, by simp, by simp, ⟨by simp, by simp⟩, fun _ _ => rfl, fun _ _ => rfl, by simp, M.fp, (fun b hb => by cases hb), M.fr, by simp⟩⟩, F4⟩

theorem pok_nil : POK [] := ⟨by simp, by simp, by simp⟩

theorem Clear85 {w : World} {mb : Nat} {VT VC : Value} {cls : List Cl2} (M : MP w.heap mb VT VC cls) : Ret Tryz.prog 85 [ptr mb] w (fun _ w' => MP w'.heap mb (.slice none 0 0) (.slice none 0 0) [] ∧ Fram (fun b => b = mb) w w') := by
  have hB := M.blk
  have F0 := Fram.refl (fun b => b = mb) w
  refine ret_of Tryz.func85 rfl Tryz.ntmps85 rfl ?_
  refine c_seq (fun K1 hK1 => ?_)
  refine c_reg ?_ -- region 0 progm.go:16
  refine wl (ro_move rfl) ?_
  refine wl (ro_nilCheck rfl) ?_
  refine wl (ro_fieldAddr (k := 0) rfl fo_84_0) ?_
  refine wls (so_storeB rfl rfl rfl sz_22 (hB) (by simp)) ?_
  refine gset (C := fun w' => WL _ _ _ _ _ w') (l' := [.slice none 0 0, VC]) hB F0 ?_
  intro w1 hB1 F1
  refine wl_nil (x_then (hK1 _ _ ?_))
  clear hK1 K1
  refine c_reg ?_ -- region 1 progm.go:17
  refine wl (ro_move rfl) ?_
  refine wl (ro_nilCheck rfl) ?_
  refine wl (ro_fieldAddr (k := 1) rfl fo_84_1) ?_
  refine wls (so_storeB rfl rfl rfl sz_22 (hB1) (by simp)) ?_
  refine gset (C := fun w' => WL _ _ _ _ _ w') (l' := [.slice none 0 0, .slice none 0 0]) hB1 F1 ?_
  intro w2 hB2 F2
  refine wl_nil ?_
  refine bp_end Tryz.results85 rfl ?_
  exact ⟨⟨hB2, Own.nil _ _ _, Own.nil _ _ _, fun b hb => by cases hb⟩, F2⟩

def rClrE (o : Bool) : Nat := if o then 2 else 0
def rClrS (s : RSt) : RSt := if s.opn then s else { s with cls := [] }
def mClrS (s : MSt) : MSt := if s.opn then s else { s with cls := [] }

theorem Clear46 {w : World} {sb : Nat} {s : RSt} {F : Nat → Prop} (M : RAll w.heap sb s F) : Ret Tryz.prog 46 [ptr sb] w (fun r w' => r = i64c (rClrE s.opn) ∧ RPostF F sb (rClrS s) w w') := by
  have M0 := M
  obtain ⟨L, pb, V, Fp, M, ok, hF⟩ := M
  have hB := M.blk
  unfold rClrE rClrS
  cases ho : s.opn with
  | true =>
    simp only [ho] at hB
    simp only [if_true]
    refine ret_of Tryz.func46 rfl Tryz.ntmps46 rfl ?_
    refine c_seq (fun K1 hK1 => ?_)
    refine c_reg ?_ -- region 0 solve.go:70
    refine wl (ro_assign rfl) ?_
    refine wl_nil (x_then (hK1 _ _ ?_))
    clear hK1 K1
    refine c_seq (fun K2 hK2 => ?_)
    refine c_seq (fun K3 hK3 => ?_)
    refine c_reg ?_ -- region 1 solve.go:71
    refine wl (ro_move rfl) ?_
    refine wl (ro_nilCheck rfl) ?_
    refine wl (ro_fieldAddr (k := 2) rfl fo_82_2) ?_
    refine wl (ro_loadB rfl sc_4 (by assumption) rfl) ?_
    refine wl_nil (x_then (hK3 _ _ ?_))
    clear hK3 K3
    refine wc_condT rfl ?_
    refine c_seq (fun K4 hK4 => ?_)
    refine c_reg ?_ -- region 2 solve.go:72
    refine wl (ro_assign rfl) ?_
    refine wl_nil (x_then (hK4 _ _ ?_))
    clear hK4 K4
    refine c_ret (x_thenR ?_)
    refine bp_ret Tryz.results46 rfl ?_
    exact ⟨rfl, .same M0 (Fram.refl _ _)⟩
  | false =>
    simp only [ho] at hB
    simp only [Bool.false_eq_true, if_false]
    refine ret_of Tryz.func46 rfl Tryz.ntmps46 rfl ?_
    refine c_seq (fun K1 hK1 => ?_)
    refine c_reg ?_ -- region 0 solve.go:70
    refine wl (ro_assign rfl) ?_
    refine wl_nil (x_then (hK1 _ _ ?_))
    clear hK1 K1
    refine c_seq (fun K2 hK2 => ?_)
    refine c_seq (fun K3 hK3 => ?_)
    refine c_reg ?_ -- region 1 solve.go:71
    refine wl (ro_move rfl) ?_
    refine wl (ro_nilCheck rfl) ?_
    refine wl (ro_fieldAddr (k := 2) rfl fo_82_2) ?_
    refine wl (ro_loadB rfl sc_4 (by assumption) rfl) ?_
    refine wl_nil (x_then (hK3 _ _ ?_))
    clear hK3 K3
    refine wc_condF rfl ?_
    refine c_skip (x_then (hK2 _ _ ?_))
    clear hK2 K2
    refine forget [(0, _)] ⟨rfl, trivial⟩ (fun e => ?_)
    refine c_seq (fun K4 hK4 => ?_)
    refine c_reg ?_ -- region 3 solve.go:74
    refine wl (ro_move rfl) ?_
    refine wl (ro_nilCheck rfl) ?_
    refine wl (ro_fieldAddr (k := 1) rfl fo_82_1) ?_
    refine wl (ro_loadB rfl sc_25 (by assumption) rfl) ?_
    refine wl_call rfl en_84 (Clear84 M.pr) ?_
    rintro _ w1 ⟨P1, F1⟩
    refine wl_nil (x_then (hK4 _ _ ?_))
    clear hK4 K4
    refine forget [] trivial (fun e => ?_)
    refine c_seq (fun K5 hK5 => ?_)
    refine c_reg ?_ -- region 4 solve.go:75
    refine wl (ro_assign rfl) ?_
    refine wl_nil (x_then (hK5 _ _ ?_))
    clear hK5 K5
    refine c_ret ?_
    refine bp_ret Tryz.results46 rfl ?_
    have hS : SRm w1.heap sb L pb V.1 V.2.1 V.2.2 { s with cls := [] } Fp := ⟨M.blk.fram F1 (fun h => (M.dp _ h).2.1 rfl), M.fro.fram F1 (fun b hb h => (M.dp b h).2.2.1 hb), M.cho.fram F1 (fun b hb h => (M.dp b h).2.2.2.1 hb), M.pro.fram F1 (fun b hb h => (M.dp b h).2.2.2.2 hb), M.hpr.fram F1 (fun b hb h => (M.dp b h).1 hb), P1, M.dl, M.dp, fun b hb => Nat.lt_of_lt_of_le (M.lp b hb) F1.size⟩
    rw [ho] at hS
    exact ⟨rfl, F, ⟨L, pb, V, Fp, hS, pok_nil, hF⟩, fun b h => .inl h, F1.mono (fun b _ h => (hF b).2 (.inr h))⟩

theorem Clear47 {w : World} {sb : Nat} {s : MSt} {F : Nat → Prop} (M : MAll w.heap sb s F) : Ret Tryz.prog 47 [ptr sb] w (fun r w' => r = i64c (rClrE s.opn) ∧ MPostF F sb (mClrS s) w w') := by
  have M0 := M
  obtain ⟨mpb, VT, VC, VL, h1, h2, h3, h4⟩ := M
  have hB := h3.blk
  unfold rClrE mClrS
  cases ho : s.opn with
  | true =>
    simp only [ho] at hB
    simp only [if_true]
    refine ret_of Tryz.func47 rfl Tryz.ntmps47 rfl ?_
    refine c_seq (fun K1 hK1 => ?_)
    refine c_reg ?_ -- region 0 solvem.go:34
    refine wl (ro_assign rfl) ?_
    refine wl_nil (x_then (hK1 _ _ ?_))
    clear hK1 K1
    refine c_seq (fun K2 hK2 => ?_)
    refine c_seq (fun K3 hK3 => ?_)
    refine c_reg ?_ -- region 1 solvem.go:35
    refine wl (ro_move rfl) ?_
    refine wl (ro_nilCheck rfl) ?_
    refine wl (ro_fieldAddr (k := 1) rfl fo_49_1) ?_
    refine wl (ro_loadB rfl sc_4 (by assumption) rfl) ?_
    refine wl_nil (x_then (hK3 _ _ ?_))
    clear hK3 K3
    refine wc_condT rfl ?_
    refine c_seq (fun K4 hK4 => ?_)
    refine c_reg ?_ -- region 2 solvem.go:36
    refine wl (ro_assign rfl) ?_
    refine wl_nil (x_then (hK4 _ _ ?_))
    clear hK4 K4
    refine c_ret (x_thenR ?_)
    refine bp_ret Tryz.results47 rfl ?_
    exact ⟨rfl, F, M0, fun b h => .inl h, Fram.refl _ _⟩
  | false =>
    simp only [ho] at hB
    simp only [Bool.false_eq_true, if_false]
    refine ret_of Tryz.func47 rfl Tryz.ntmps47 rfl ?_
    refine c_seq (fun K1 hK1 => ?_)
    refine c_reg ?_ -- region 0 solvem.go:34
    refine wl (ro_assign rfl) ?_
    refine wl_nil (x_then (hK1 _ _ ?_))
    clear hK1 K1
    refine c_seq (fun K2 hK2 => ?_)
    refine c_seq (fun K3 hK3 => ?_)
    refine c_reg ?_ -- region 1 solvem.go:35
    refine wl (ro_move rfl) ?_
    refine wl (ro_nilCheck rfl) ?_
    refine wl (ro_fieldAddr (k := 1) rfl fo_49_1) ?_
    refine wl (ro_loadB rfl sc_4 (by assumption) rfl) ?_
    refine wl_nil (x_then (hK3 _ _ ?_))
    clear hK3 K3
    refine wc_condF rfl ?_
    refine c_skip (x_then (hK2 _ _ ?_))
    clear hK2 K2
    refine forget [(0, _)] ⟨rfl, trivial⟩ (fun e => ?_)
    refine c_seq (fun K4 hK4 => ?_)
    refine c_reg ?_ -- region 3 solvem.go:38
    refine wl (ro_move rfl) ?_
    refine wl (ro_nilCheck rfl) ?_
    refine wl (ro_fieldAddr (k := 0) rfl fo_49_0) ?_
    refine wl (ro_loadB rfl sc_44 (by assumption) rfl) ?_
    refine wl_call rfl en_85 (Clear85 h1) ?_
    rintro _ w1 ⟨P1, F1⟩
    refine wl_nil (x_then (hK4 _ _ ?_))
    clear hK4 K4
    refine forget [] trivial (fun e => ?_)
    refine c_seq (fun K5 hK5 => ?_)
    refine c_reg ?_ -- region 4 solvem.go:39
    refine wl (ro_assign rfl) ?_
    refine wl_nil (x_then (hK5 _ _ ?_))
    clear hK5 K5
    refine c_ret ?_
    refine bp_ret Tryz.results47 rfl ?_
    have hS : SM w1.heap sb VL ⟨mpb, s.opn, s.q, s.fuel, s.given⟩ s.st := ⟨h3.blk.fram F1 (fun he => by have := h3.blk.uniq (he ▸ h1.blk); have h9 := this.2; cases h9), h3.own.fram F1 (fun b hb he => h3.own.neblk h1.blk (by decide) b hb he)⟩
    rw [ho] at hS
    refine ⟨rfl, fun b => SFoot sb VL b ∨ MPFoot mpb (.slice none 0 0) (.slice none 0 0) b, ⟨mpb, _, _, VL, P1, pok_nil, hS, fun b => Iff.rfl⟩, ?_, F1.mono (fun b _ h => (h4 b).2 (.inr (.inl h)))⟩
    rintro b (h | (h | h | h))
    · exact .inl ((h4 b).2 (.inl h))
    · exact .inl ((h4 b).2 (.inr (.inl h)))
    · cases h
    · cases h

def haltE (o : Bool) : Nat := if o then 0 else 3
def rHltS (s : RSt) : RSt := if s.opn then { s with opn := false, cont := -1, frs := [], chs := [], proof := [] } else s
def mHltS (s : MSt) : MSt := if s.opn then { s with opn := false } else s

theorem Halt48 {w : World} {sb : Nat} {s : RSt} {F : Nat → Prop} (M : RAll w.heap sb s F) : Ret Tryz.prog 48 [ptr sb] w (fun r w' => r = i64c (haltE s.opn) ∧ RPostF F sb (rHltS s) w w') := by
  have M0 := M
  obtain ⟨L, pb, V, Fp, M, ok, hF⟩ := M
  have hB := M.blk
  unfold haltE rHltS
  cases ho : s.opn with
  | false =>
    simp only [ho] at hB
    simp only [Bool.false_eq_true, if_false]
    refine ret_of Tryz.func48 rfl Tryz.ntmps48 rfl ?_
    refine c_seq (fun K1 hK1 => ?_)
    refine c_reg ?_ -- region 0 solve.go:127
    refine wl (ro_assign rfl) ?_
    refine wl_nil (x_then (hK1 _ _ ?_))
    clear hK1 K1
    refine c_seq (fun K2 hK2 => ?_)
    refine c_seq (fun K3 hK3 => ?_)
    refine c_reg ?_ -- region 1 solve.go:128
    refine wl (ro_move rfl) ?_
    refine wl (ro_nilCheck rfl) ?_
    refine wl (ro_fieldAddr (k := 2) rfl fo_82_2) ?_
    refine wl (ro_loadB rfl sc_4 (by assumption) rfl) ?_
    refine wl (ro_not rfl) ?_
    refine wl_nil (x_then (hK3 _ _ ?_))
    clear hK3 K3
    refine wc_condT rfl ?_
    refine c_seq (fun K4 hK4 => ?_)
    refine c_reg ?_ -- region 2 solve.go:129
    refine wl (ro_assign rfl) ?_
    refine wl_nil (x_then (hK4 _ _ ?_))
    clear hK4 K4
    refine c_ret (x_thenR ?_)
    refine bp_ret Tryz.results48 rfl ?_
    exact ⟨rfl, .same M0 (Fram.refl _ _)⟩
  | true =>
    simp only [ho] at hB
    simp only [if_true]
    refine ret_of Tryz.func48 rfl Tryz.ntmps48 rfl ?_
    refine c_seq (fun K1 hK1 => ?_)
    refine c_reg ?_ -- region 0 solve.go:127
    refine wl (ro_assign rfl) ?_
    refine wl_nil (x_then (hK1 _ _ ?_))
    clear hK1 K1
    refine c_seq (fun K2 hK2 => ?_)
    refine c_seq (fun K3 hK3 => ?_)
    refine c_reg ?_ -- region 1 solve.go:128
    refine wl (ro_move rfl) ?_
    refine wl (ro_nilCheck rfl) ?_
    refine wl (ro_fieldAddr (k := 2) rfl fo_82_2) ?_
    refine wl (ro_loadB rfl sc_4 (by assumption) rfl) ?_
    refine wl (ro_not rfl) ?_
    refine wl_nil (x_then (hK3 _ _ ?_))
    clear hK3 K3
    refine wc_condF rfl ?_
    refine c_skip (x_then (hK2 _ _ ?_))
    clear hK2 K2
    refine forget [(0, _)] ⟨rfl, trivial⟩ (fun e => ?_)
    refine c_seq (fun K4 hK4 => ?_)
    refine c_reg ?_ -- region 3 solve.go:131
    refine wl (ro_move rfl) ?_
    refine wl_call rfl en_43 (shut43 M) ?_
    rintro _ w1 ⟨VF4, VG4, VP4, M4, e1, e2, e3, F4⟩
    refine wl_nil (x_then (hK4 _ _ ?_))
    clear hK4 K4
    refine forget [] trivial (fun e => ?_)
    refine c_seq (fun K5 hK5 => ?_)
    refine c_reg ?_ -- region 4 solve.go:132
    refine wl (ro_assign rfl) ?_
    refine wl_nil (x_then (hK5 _ _ ?_))
    clear hK5 K5
    refine c_ret ?_
    refine bp_ret Tryz.results48 rfl ?_
    have T4 : Stp w w1 sb L pb V (VF4, VG4, VP4) _ Fp := ⟨M4, F4.mono (fun b _ h => .inl h), fun b h => .inl (by rw [← e1]; exact h), fun b h => .inl (by rw [← e2]; exact h), fun b h => .inl (by rw [← e3]; exact h)⟩
    exact ⟨rfl, T4.post ok hF⟩

theorem Halt49 {w : World} {sb : Nat} {s : MSt} {F : Nat → Prop} (M : MAll w.heap sb s F) : Ret Tryz.prog 49 [ptr sb] w (fun r w' => r = i64c (haltE s.opn) ∧ MPostF F sb (mHltS s) w w') := by
  have M0 := M
  obtain ⟨mpb, VT, VC, VL, h1, h2, h3, h4⟩ := M
  have hB := h3.blk
  unfold haltE mHltS
  cases ho : s.opn with
  | false =>
    simp only [ho] at hB
    simp only [Bool.false_eq_true, if_false]
    refine ret_of Tryz.func49 rfl Tryz.ntmps49 rfl ?_
    refine c_seq (fun K1 hK1 => ?_)
    refine c_reg ?_ -- region 0 solvem.go:42
    refine wl (ro_assign rfl) ?_
    refine wl_nil (x_then (hK1 _ _ ?_))
    clear hK1 K1
    refine c_seq (fun K2 hK2 => ?_)
    refine c_seq (fun K3 hK3 => ?_)
    refine c_reg ?_ -- region 1 solvem.go:43
    refine wl (ro_move rfl) ?_
    refine wl (ro_nilCheck rfl) ?_
    refine wl (ro_fieldAddr (k := 1) rfl fo_49_1) ?_
    refine wl (ro_loadB rfl sc_4 (by assumption) rfl) ?_
    refine wl (ro_not rfl) ?_
    refine wl_nil (x_then (hK3 _ _ ?_))
    clear hK3 K3
    refine wc_condT rfl ?_
    refine c_seq (fun K4 hK4 => ?_)
    refine c_reg ?_ -- region 2 solvem.go:44
    refine wl (ro_assign rfl) ?_
    refine wl_nil (x_then (hK4 _ _ ?_))
    clear hK4 K4
    refine c_ret (x_thenR ?_)
    refine bp_ret Tryz.results49 rfl ?_
    exact ⟨rfl, F, M0, fun b h => .inl h, Fram.refl _ _⟩
  | true =>
    simp only [ho] at hB
    simp only [if_true]
    refine ret_of Tryz.func49 rfl Tryz.ntmps49 rfl ?_
    refine c_seq (fun K1 hK1 => ?_)
    refine c_reg ?_ -- region 0 solvem.go:42
    refine wl (ro_assign rfl) ?_
    refine wl_nil (x_then (hK1 _ _ ?_))
    clear hK1 K1
    refine c_seq (fun K2 hK2 => ?_)
    refine c_seq (fun K3 hK3 => ?_)
    refine c_reg ?_ -- region 1 solvem.go:43
    refine wl (ro_move rfl) ?_
    refine wl (ro_nilCheck rfl) ?_
    refine wl (ro_fieldAddr (k := 1) rfl fo_49_1) ?_
    refine wl (ro_loadB rfl sc_4 (by assumption) rfl) ?_
    refine wl (ro_not rfl) ?_
    refine wl_nil (x_then (hK3 _ _ ?_))
    clear hK3 K3
    refine wc_condF rfl ?_
    refine c_skip (x_then (hK2 _ _ ?_))
    clear hK2 K2
    refine forget [(0, _)] ⟨rfl, trivial⟩ (fun e => ?_)
    refine c_seq (fun K4 hK4 => ?_)
    refine c_reg ?_ -- region 3 solvem.go:46
    refine wl (ro_move rfl) ?_
    refine wl (ro_nilCheck rfl) ?_
    refine wl (ro_fieldAddr (k := 1) rfl fo_49_1) ?_
    refine wls (so_storeB rfl rfl rfl sz_4 (hB) (by simp)) ?_
    have FS : Fram (fun b => b = sb) w _ := Fram.set w sb [ptr mpb, .bool false, S s.q, i64c s.fuel, i64c s.given, VL, i64c s.st.inf, i64c s.st.tried, i64c s.st.fin].toArray (.inl rfl)
    have hB1 := hB.set [ptr mpb, .bool false, S s.q, i64c s.fuel, i64c s.given, VL, i64c s.st.inf, i64c s.st.tried, i64c s.st.fin]
    refine wl_nil (x_then (hK4 _ _ ?_))
    clear hK4 K4
    refine forget [] trivial (fun e => ?_)
    refine c_seq (fun K5 hK5 => ?_)
    refine c_reg ?_ -- region 4 solvem.go:47
    refine wl (ro_assign rfl) ?_
    refine wl_nil (x_then (hK5 _ _ ?_))
    clear hK5 K5
    refine c_ret ?_
    refine bp_ret Tryz.results49 rfl ?_
    exact ⟨rfl, F, ⟨mpb, VT, VC, VL, h1.fram FS (fun b hb he => by
      rcases hb with hb | hb | hb
      · have := h3.blk.uniq (he ▸ hb ▸ h1.blk); have h9 := this.2; cases h9
      · exact h1.txt.neblk h3.blk (by decide) b hb he
      · exact h1.cod.neblk h3.blk (by decide) b hb he), h2, ⟨hB1, h3.own.fram FS (fun b hb he => h3.own.neblk h3.blk (by decide) b hb he)⟩, h4⟩, fun b h => .inl h, FS.mono (fun b _ h => (h4 b).2 (.inl (.inl h)))⟩

end Go.Proofs.Qxb6500569aGreat
