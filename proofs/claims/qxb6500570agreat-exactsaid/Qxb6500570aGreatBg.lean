import Derived.Test.Qxb6500570aGreatBf
/- The real former: join, settle, whole. -/
namespace Go.Proofs.Qxb6500570aGreat
set_option linter.unusedVariables false
set_option linter.unusedSimpArgs false

/-- The former at work. -/
structure FV (w : World) (B : FB7) (T : List Tk) (k : Nat) (pos : Int) (ar : List Nd) (ov : List Int) (os : List Mk) (hv dn : Bool) (er bd wi : Int) (ft fa fv fo : Nat → Value) : Prop where
  b : Blk w.heap B.f (fml B (T.length + 1) k pos ar.length ov.length os.length hv dn er bd wi) 83
  t : FB w.heap B.t 369 ft 189
  a : FB w.heap B.a 312 fa 143
  v : FB w.heap B.v 41 fv 3
  o : FB w.heap B.o 205 fo 197
  tv : TkV ft (T ++ [tkEnd])
  av : NdV fa ar
  vv : OvV fv ov
  mv : MkV fo os
  kT : k ≤ T.length
  lT : T.length ≤ 40
  la : ar.length ≤ 24
def FW (w : World) (B : FB7) (T : List Tk) (k : Nat) (ar : List Nd) (ov : List Int) (os : List Mk) (hv dn bad : Bool) : Prop := ∃ (pos er bd wi : Int) (ft fa fv fo : Nat → Value), FV w B T k pos ar ov os hv dn er bd wi ft fa fv fo ∧ decide (er ≠ 0) = bad

set_option maxHeartbeats 2000000 in
theorem join158 {w : World} {B : FB7} {T : List Tk} {k : Nat} {ar : List Nd} {a b : Int} {ov : List Int} {m : Mk} {os : List Mk} {hv dn bad : Bool} (ho : FBo B) (V : FW w B T k ar (b :: a :: ov) (m :: os) hv dn bad) (hv1 : ov.length + 2 ≤ 41) (ho1 : os.length + 1 ≤ 41) :
    Ret Tryz.prog 158 [ptr B.f] w (fun v w' => v = .tuple #[] ∧ FW w' B T k (joinX m bad ar (b :: a :: ov)).2.1 (joinX m bad ar (b :: a :: ov)).2.2 os hv dn (joinX m bad ar (b :: a :: ov)).1 ∧ Fram (fset B) w w') := by
  have hF : Fram (fset B) w w := Fram.refl _ _
  obtain ⟨pos, er, bd, wi, ft, fa, fv, fo, ⟨hB, hK, hA, hV, hO, htv, hav, hvv, hmv, hkT, hlT, hla⟩, hbad⟩ := V
  have hm1 : fset B B.f := .inl rfl
  have hm4 : fset B B.v := .inr (.inr (.inr (.inl rfl)))
  obtain ⟨ma, hcel⟩ := hmv.top
  have hx1 : fo (os.length * 5 + 1) = i64c m.o := hcel 1 _ rfl
  have hya : fv ov.length = icv a := hvv.tail.top
  have hyb : fv (ov.length + 1) = icv b := hvv.top
  refine ret_of Tryz.func158 rfl Tryz.ntmps158 rfl ?_
  refine c_seq (fun K1 hK1 => ?_)
  refine c_reg ?_ -- region 0 parse.go:78
  refine wl (ro_move rfl) ?_
  refine wl (ro_nilCheck rfl) ?_
  refine wl (ro_fieldAddr (k := 9) rfl fo_83_9) ?_
  refine wl (ro_loadB rfl sc_3 (hB) (rfl)) ?_
  refine wl (ro_arith (r := (os.length : Int)) rfl rfl (congrArg some (by show ((os.length + 1 : Nat) : Int) - 1 = _; omega)) (Go.IntWalk.i64_in _ (by omega))) ?_
  refine wl (ro_nilCheck rfl) ?_
  refine wl (ro_fieldAddr (k := 9) rfl fo_83_9) ?_
  refine wl_put rfl rfl rfl sz_3 hB ((by simp)) ((show _ = fml B (T.length + 1) k pos ar.length (ov.length + 2) os.length hv dn er bd wi from rfl)) (fun w1 hB F1 => ?_)
  replace hF := hF.thenDrew.thenO F1 (by first | exact .inr (by omega) | exact .inl rfl | exact .inl (by assumption))
  replace hK := F1.blkO hK (by first | (simp only [ne_eq, ho.all, not_false_eq_true]; done) | omega)
  replace hA := F1.blkO hA (by first | (simp only [ne_eq, ho.all, not_false_eq_true]; done) | omega)
  replace hV := F1.blkO hV (by first | (simp only [ne_eq, ho.all, not_false_eq_true]; done) | omega)
  replace hO := F1.blkO hO (by first | (simp only [ne_eq, ho.all, not_false_eq_true]; done) | omega)
  refine wl_nil (x_then (hK1 _ _ ?_))
  clear hK1 K1
  refine forget [(0, _)] ⟨rfl, trivial⟩ (fun e => ?_)
  refine c_seq (fun K2 hK2 => ?_)
  refine c_reg ?_ -- region 1 parse.go:79
  refine wl (ro_move rfl) ?_
  refine wl (ro_nilCheck rfl) ?_
  refine wl (ro_fieldAddr (k := 7) rfl fo_83_7) ?_
  refine wl (ro_loadB rfl sc_3 (hB) (rfl)) ?_
  refine wl (ro_arith (r := ((ov.length + 1 : Nat) : Int)) rfl rfl (congrArg some (by show ((ov.length + 2 : Nat) : Int) - 1 = _; omega)) (Go.IntWalk.i64_in _ (by omega))) ?_
  refine wl (ro_nilCheck rfl) ?_
  refine wl (ro_fieldAddr (k := 7) rfl fo_83_7) ?_
  refine wl_put rfl rfl rfl sz_3 hB ((by simp)) ((show _ = fml B (T.length + 1) k pos ar.length (ov.length + 1) os.length hv dn er bd wi from rfl)) (fun w2 hB F2 => ?_)
  replace hF := hF.thenDrew.thenO F2 (by first | exact .inr (by omega) | exact .inl rfl | exact .inl (by assumption))
  replace hK := F2.blkO hK (by first | (simp only [ne_eq, ho.all, not_false_eq_true]; done) | omega)
  replace hA := F2.blkO hA (by first | (simp only [ne_eq, ho.all, not_false_eq_true]; done) | omega)
  replace hV := F2.blkO hV (by first | (simp only [ne_eq, ho.all, not_false_eq_true]; done) | omega)
  replace hO := F2.blkO hO (by first | (simp only [ne_eq, ho.all, not_false_eq_true]; done) | omega)
  refine wl_nil (x_then (hK2 _ _ ?_))
  clear hK2 K2
  refine forget [(0, _)] ⟨rfl, trivial⟩ (fun e => ?_)
  refine c_seq (fun K3 hK3 => ?_)
  refine c_pi [(0, false), (1, false), (2, false), (3, false), (4, false), (5, false), (6, false), (7, false), (8, false), (9, false), (10, false), (11, false), (12, false), (13, false), (14, false), (15, false), (16, false), (17, false), (18, false), (19, false), (20, false), (21, false), (22, false), (23, false), (24, false), (25, false), (26, false), (27, false), (28, false), (29, false), (30, false), (31, false), (32, false), (33, false), (34, true), (35, false)] (fun w' => SF w' B (T.length + 1) k pos (ov.length + 1) os.length hv dn wi ∧ FB w'.heap B.v 41 fv 3 ∧ FB w'.heap B.o 205 fo 197) mixed (by kernel_rfl) rfl (by kernel_rfl) (po_then (po_bp)) (⟨⟨_, _, _, hB⟩, hV, hO⟩) ?_ -- region 2 parse.go:80
  refine pi_ro rfl (fun w hS => ro_move rfl) ?_
  refine pi_ro rfl (fun w hS => ro_move rfl) ?_
  refine pi_ro rfl (fun w hS => ro_nilCheck rfl) ?_
  refine pi_ro rfl (fun w hS => ro_fieldAddr (k := 8) rfl fo_83_8) ?_
  refine pi_ro rfl (fun w hS => ro_loadX rfl sc_80 (hS.1.ld (by decide) rfl)) ?_
  refine pi_ro rfl (fun w hS => ro_move rfl) ?_
  refine pi_ro rfl (fun w hS => ro_nilCheck rfl) ?_
  refine pi_ro rfl (fun w hS => ro_fieldAddr (k := 9) rfl fo_83_9) ?_
  refine pi_ro rfl (fun w hS => ro_loadX rfl sc_3 (hS.1.ld (by decide) rfl)) ?_
  refine pi_ro rfl (fun w hS => ro_indexAddr (et := 197) (k := 5) rfl rfl se_80 (rfl) ((by omega : os.length < 41))) ?_
  refine pi_ro rfl (fun w hS => ro_fieldAddr (k := 1) rfl fo_197_1) ?_
  refine pi_ro rfl (fun w hS => ro_loadB rfl sc_3 (hS.2.2) (cel_at (k := os.length * 5 + 1) (by omega) (by omega) hx1)) ?_
  refine pi_ro rfl (fun w hS => ro_move rfl) ?_
  refine pi_ro rfl (fun w hS => ro_nilCheck rfl) ?_
  refine pi_ro rfl (fun w hS => ro_fieldAddr (k := 6) rfl fo_83_6) ?_
  refine pi_ro rfl (fun w hS => ro_loadX rfl sc_79 (hS.1.ld (by decide) rfl)) ?_
  refine pi_ro rfl (fun w hS => ro_move rfl) ?_
  refine pi_ro rfl (fun w hS => ro_nilCheck rfl) ?_
  refine pi_ro rfl (fun w hS => ro_fieldAddr (k := 7) rfl fo_83_7) ?_
  refine pi_ro rfl (fun w hS => ro_loadX rfl sc_3 (hS.1.ld (by decide) rfl)) ?_
  refine pi_ro rfl (fun w hS => ro_arith (r := (ov.length : Int)) rfl rfl (congrArg some (by show ((ov.length + 1 : Nat) : Int) - 1 = _; omega)) (Go.IntWalk.i64_in _ (by omega))) ?_
  refine pi_ro rfl (fun w hS => ro_indexAddr (et := 3) (k := 1) rfl rfl se_79 (rfl) ((by omega : ov.length < 41))) ?_
  refine pi_ro rfl (fun w hS => ro_loadB rfl sc_3 (hS.2.1) (cel_at (k := ov.length) (by omega) (by omega) hya)) ?_
  refine pi_ro rfl (fun w hS => ro_move rfl) ?_
  refine pi_ro rfl (fun w hS => ro_nilCheck rfl) ?_
  refine pi_ro rfl (fun w hS => ro_fieldAddr (k := 6) rfl fo_83_6) ?_
  refine pi_ro rfl (fun w hS => ro_loadX rfl sc_79 (hS.1.ld (by decide) rfl)) ?_
  refine pi_ro rfl (fun w hS => ro_move rfl) ?_
  refine pi_ro rfl (fun w hS => ro_nilCheck rfl) ?_
  refine pi_ro rfl (fun w hS => ro_fieldAddr (k := 7) rfl fo_83_7) ?_
  refine pi_ro rfl (fun w hS => ro_loadX rfl sc_3 (hS.1.ld (by decide) rfl)) ?_
  refine pi_ro rfl (fun w hS => ro_indexAddr (et := 3) (k := 1) rfl rfl se_79 (rfl) ((by omega : ov.length + 1 < 41))) ?_
  refine pi_ro rfl (fun w hS => ro_loadB rfl sc_3 (hS.2.1) (cel_at (k := ov.length + 1) (by omega) (by omega) hyb)) ?_
  refine pi_ro rfl (fun w hS => ro_build rfl bld_143_0_1_2_3) ?_
  refine pi_call rfl rfl en_193 (add193 (x := nBinI m.o a b) ho hla hB hA hav) ?_
  rintro _ w9 ⟨rfl, ⟨⟨er', bd', hbd', hB⟩, ⟨fa', hA, hav⟩⟩, F9⟩
  replace hF := hF.transG F9 (by intro k hk h; simp only [one, none', fa2, fset] at h ⊢ <;> omega)
  replace hK := F9.blkF hK (by intro h; simp only [one, none', fa2, fset, ho.all, or_self, false_or, or_false] at h <;> omega)
  replace hV := F9.blkF hV (by intro h; simp only [one, none', fa2, fset, ho.all, or_self, false_or, or_false] at h <;> omega)
  replace hO := F9.blkF hO (by intro h; simp only [one, none', fa2, fset, ho.all, or_self, false_or, or_false] at h <;> omega)
  refine ⟨⟨⟨_, _, _, hB⟩, hV, hO⟩, ?_⟩
  rw [hbad] at hbd' hB hav ⊢
  refine pi_ro rfl (fun w hS => ro_assign rfl) ?_
  refine pi_nil (x_then (hK3 _ _ ?_))
  clear hK3 K3
  refine c_piL 11 [(0, false), (1, false), (2, false), (3, false), (4, false), (5, false), (6, false), (7, false), (8, false), (9, false), (10, false)] (SameH _) mixed (by kernel_rfl) rfl (by kernel_rfl) (po_bp) (sameH_now _ _) ?_ -- region 3 parse.go:81
  refine ql_ro rfl (fun w hS => ro_move rfl) ?_
  refine ql_ro rfl (fun w hS => ro_nilCheck rfl) ?_
  refine ql_ro rfl (fun w hS => ro_fieldAddr (k := 6) rfl fo_83_6) ?_
  refine ql_ro rfl (fun w hS => ro_loadB rfl sc_79 (Blk.of_heap hB hS) (rfl)) ?_
  refine ql_ro rfl (fun w hS => ro_move rfl) ?_
  refine ql_ro rfl (fun w hS => ro_nilCheck rfl) ?_
  refine ql_ro rfl (fun w hS => ro_fieldAddr (k := 7) rfl fo_83_7) ?_
  refine ql_ro rfl (fun w hS => ro_loadB rfl sc_3 (Blk.of_heap hB hS) (rfl)) ?_
  refine ql_ro rfl (fun w hS => ro_arith (r := (ov.length : Int)) rfl rfl (congrArg some (by show ((ov.length + 1 : Nat) : Int) - 1 = _; omega)) (Go.IntWalk.i64_in _ (by omega))) ?_
  refine ql_ro rfl (fun w hS => ro_move rfl) ?_
  refine ql_ro rfl (fun w hS => ro_indexAddr (et := 3) (k := 1) rfl rfl se_79 (rfl) ((by omega : ov.length < 41))) ?_
  refine ql_put rfl rfl rfl rfl sz_3 hV ((cel_lt (by omega))) ((cel_put ov.length (by omega))) (fun w3 hV F3 => ?_)
  replace hF := hF.thenDrew.thenO F3 (by first | exact .inr (by omega) | exact .inl rfl | exact .inl (by assumption))
  replace hB := F3.blkO hB (by first | (simp only [ne_eq, ho.all, not_false_eq_true]; done) | omega)
  replace hK := F3.blkO hK (by first | (simp only [ne_eq, ho.all, not_false_eq_true]; done) | omega)
  replace hA := F3.blkO hA (by first | (simp only [ne_eq, ho.all, not_false_eq_true]; done) | omega)
  replace hO := F3.blkO hO (by first | (simp only [ne_eq, ho.all, not_false_eq_true]; done) | omega)
  refine ?_
  refine bp_end Tryz.results158 rfl ?_
  exact ⟨rfl, ⟨_, _, _, _, _, _, _, _, ⟨hB, hK, hA, hV, hO, htv, hav, hvv.tail.tail.push _, hmv.tail, hkT, hlT, addX_len hla⟩, hbd'⟩, hF⟩

end Go.Proofs.Qxb6500570aGreat
