import Derived.Test.Qxb6500570aGreatBd
import Derived.Test.Qxb6500570aGreatPh
/- The real former: the parser's small parts. -/
namespace Go.Proofs.Qxb6500570aGreat
set_option linter.unusedVariables false
set_option linter.unusedSimpArgs false

abbrev mkc (a : Int) (m : Mk) : List Value := [i64c m.k, i64c m.o, icv a, i64c m.n, icv m.l]
theorem mkc_cells (a : Int) (m : Mk) : ∀ u ∈ mkc a m, u.oneCell' = true := by
  intro u hu
  simp only [mkc, List.mem_cons, List.not_mem_nil, or_false] at hu
  rcases hu with rfl | rfl | rfl | rfl | rfl <;> rfl

/-- Nodes in cells. -/
def NdV (fa : Nat → Value) (ar : List Nd) : Prop := ∀ (k : Nat) (x : Nd), ar[k]? = some x → ∀ (j : Nat) (v : Value), (ndc x)[j]? = some v → fa (k * 13 + j) = v
theorem NdV.nil (fa : Nat → Value) : NdV fa [] := fun k x h => by simp at h
theorem NdV.app {fa : Nat → Value} {ar : List Nd} (h : NdV fa ar) (x : Nd) : NdV (pts fa (ar.length * 13) (ndc x)) (ar ++ [x]) := by
  intro k q hk j v hj
  have hj13 := (List.getElem?_eq_some_iff.1 hj).1
  simp only [ndc, List.length_cons, List.length_nil] at hj13
  by_cases hkl : k < ar.length
  · rw [List.getElem?_append_left hkl] at hk
    rw [pts_out (by omega)]
    exact h k q hk j v hj
  · rw [List.getElem?_append_right (by omega)] at hk
    have hk0 : k = ar.length := by
      have := (List.getElem?_eq_some_iff.1 hk).1
      simp at this
      omega
    subst hk0
    simp at hk
    subst hk
    exact pts_in hj
/-- The operands, the top first. -/
def OvV (fv : Nat → Value) (ov : List Int) : Prop := ∀ (i : Nat) (v : Int), ov[i]? = some v → fv (ov.length - 1 - i) = icv v
theorem OvV.nil (fv : Nat → Value) : OvV fv [] := fun i v h => by simp at h
theorem OvV.tail {fv : Nat → Value} {x : Int} {ov : List Int} (h : OvV fv (x :: ov)) : OvV fv ov := by
  intro i v hi
  have hl := (List.getElem?_eq_some_iff.1 hi).1
  have := h (i + 1) v (by simpa using hi)
  simp only [List.length_cons] at this
  rw [← this]
  congr 1
  omega
theorem OvV.top {fv : Nat → Value} {x : Int} {ov : List Int} (h : OvV fv (x :: ov)) : fv ov.length = icv x := by
  have := h 0 x (by simp)
  simpa using this
theorem OvV.push {fv : Nat → Value} {ov : List Int} (h : OvV fv ov) (x : Int) : OvV (pt fv ov.length (icv x)) (x :: ov) := by
  intro i v hi
  cases i with
  | zero =>
    simp at hi
    subst hi
    simp [pt]
  | succ i =>
    simp only [List.getElem?_cons_succ] at hi
    have hl := (List.getElem?_eq_some_iff.1 hi).1
    simp only [List.length_cons]
    rw [pt_ne (by omega), show ov.length + 1 - 1 - (i + 1) = ov.length - 1 - i by omega]
    exact h i v hi
/-- The marks, the top first. -/
def MkV (fo : Nat → Value) (os : List Mk) : Prop := ∀ (i : Nat) (m : Mk), os[i]? = some m → ∃ a : Int, ∀ (j : Nat) (v : Value), (mkc a m)[j]? = some v → fo ((os.length - 1 - i) * 5 + j) = v
theorem MkV.nil (fo : Nat → Value) : MkV fo [] := fun i m h => by simp at h
theorem MkV.tail {fo : Nat → Value} {x : Mk} {os : List Mk} (h : MkV fo (x :: os)) : MkV fo os := by
  intro i m hi
  have hl := (List.getElem?_eq_some_iff.1 hi).1
  obtain ⟨a, ha⟩ := h (i + 1) m (by simpa using hi)
  refine ⟨a, fun j v hj => ?_⟩
  have := ha j v hj
  simp only [List.length_cons] at this
  rw [← this]
  congr 1
  congr 1
  omega
theorem MkV.top {fo : Nat → Value} {x : Mk} {os : List Mk} (h : MkV fo (x :: os)) : ∃ a : Int, ∀ (j : Nat) (v : Value), (mkc a x)[j]? = some v → fo (os.length * 5 + j) = v := by
  obtain ⟨a, ha⟩ := h 0 x (by simp)
  exact ⟨a, fun j v hj => by simpa using ha j v hj⟩
theorem MkV.push {fo : Nat → Value} {os : List Mk} (h : MkV fo os) (a : Int) (x : Mk) : MkV (pts fo (os.length * 5) (mkc a x)) (x :: os) := by
  intro i m hi
  cases i with
  | zero =>
    simp at hi
    subst hi
    exact ⟨a, fun j v hj => by simpa using pts_in hj⟩
  | succ i =>
    simp only [List.getElem?_cons_succ] at hi
    have hl := (List.getElem?_eq_some_iff.1 hi).1
    obtain ⟨a', ha⟩ := h i m hi
    refine ⟨a', fun j v hj => ?_⟩
    have hj5 := (List.getElem?_eq_some_iff.1 hj).1
    simp only [mkc, List.length_cons, List.length_nil] at hj5
    simp only [List.length_cons]
    rw [pts_out (by omega), show os.length + 1 - 1 - (i + 1) = os.length - 1 - i by omega]
    exact ha j v hj

/-- All that the parser writes. -/
def fset (B : FB7) : Nat → Prop := fun b => b = B.f ∨ b = B.t ∨ b = B.a ∨ b = B.v ∨ b = B.o

theorem fail160 {w : World} {B : FB7} {nt k nn nv no : Nat} {pos er bd wi e a : Int} {hv dn : Bool} (he : e ≠ 0) (hB : Blk w.heap B.f (fml B nt k pos nn nv no hv dn er bd wi) 83) :
    Ret Tryz.prog 160 [ptr B.f, icv e, icv a] w (fun v w' => v = .tuple #[] ∧ (∃ er' bd', er' ≠ 0 ∧ Blk w'.heap B.f (fml B nt k pos nn nv no hv dn er' bd' wi) 83) ∧ Fram (one B.f) w w') := by
  have hF : Fram (one B.f) w w := Fram.refl _ _
  refine ret_of Tryz.func160 rfl Tryz.ntmps160 rfl ?_
  refine c_seq (fun K1 hK1 => ?_)
  refine c_reg ?_ -- region 0 parse.go:17
  refine wl (ro_move rfl) ?_
  refine wl (ro_nilCheck rfl) ?_
  refine wl (ro_fieldAddr (k := 12) rfl fo_83_12) ?_
  refine wl (ro_loadB rfl sc_26 (hB) (rfl)) ?_
  refine wl (ro_cmp (r := decide (er = 0)) rfl rfl (congrArg some (by by_cases h : er = 0 <;> simp [h]))) ?_
  refine wl_nil (x_then (hK1 _ _ ?_))
  clear hK1 K1
  refine wc_cond rfl (fun hc10 => ?_) (fun hc10 => ?_)
  · try simp only [decide_eq_true_eq, decide_eq_false_iff_not, Bool.not_eq_true', Bool.not_eq_false', Bool.not_eq_eq_eq_not, Bool.not_true, Bool.not_false, beq_iff_eq, bne_iff_ne, ne_eq, beq_eq_false_iff_ne, bne_eq_false_iff_eq, gt_iff_lt, ge_iff_le, Int.not_lt, Int.not_le] at hc10
    refine c_reg ?_ -- region 1 parse.go:18
    refine wl (ro_move rfl) ?_
    refine wl (ro_move rfl) ?_
    refine wl (ro_move rfl) ?_
    refine wl (ro_move rfl) ?_
    refine wl (ro_nilCheck rfl) ?_
    refine wl (ro_fieldAddr (k := 12) rfl fo_83_12) ?_
    refine wl_put rfl rfl rfl sz_26 hB ((by simp)) ((show _ = fml B nt k pos nn nv no hv dn e bd wi from rfl)) (fun w1 hB F1 => ?_)
    replace hF := hF.thenDrew.thenO F1 (by first | exact .inr (by omega) | exact .inl rfl | exact .inl (by assumption))
    refine wl (ro_nilCheck rfl) ?_
    refine wl (ro_fieldAddr (k := 13) rfl fo_83_13) ?_
    refine wl_put rfl rfl rfl sz_3 hB ((by simp)) ((show _ = fml B nt k pos nn nv no hv dn e a wi from rfl)) (fun w2 hB F2 => ?_)
    replace hF := hF.thenDrew.thenO F2 (by first | exact .inr (by omega) | exact .inl rfl | exact .inl (by assumption))
    refine wl_nil ?_
    refine bp_end Tryz.results160 rfl ?_
    exact ⟨rfl, ⟨e, a, he, hB⟩, hF⟩
  · try simp only [decide_eq_true_eq, decide_eq_false_iff_not, Bool.not_eq_true', Bool.not_eq_false', Bool.not_eq_eq_eq_not, Bool.not_true, Bool.not_false, beq_iff_eq, bne_iff_ne, ne_eq, beq_eq_false_iff_ne, bne_eq_false_iff_eq, gt_iff_lt, ge_iff_le, Int.not_lt, Int.not_le] at hc10
    refine c_skip ?_
    refine bp_end Tryz.results160 rfl ?_
    exact ⟨rfl, ⟨er, bd, hc10, hB⟩, hF⟩

theorem tok_at {T : List Tk} {k : Nat} (hk : k ≤ T.length) : (T ++ [tkEnd])[k]? = some (hdT (T.drop k)) := by
  by_cases h : k < T.length
  · rw [List.getElem?_append_left h, List.drop_eq_getElem_cons h, List.getElem?_eq_getElem h]
    rfl
  · have : k = T.length := by omega
    subst this
    rw [List.drop_length]
    simp [hdT]
theorem TkV.row {ft : Nat → Value} {T : List Tk} {k : Nat} {t : Tk} {a e : Nat} (h : ∀ (j : Nat) (v : Value), (tkc a e t)[j]? = some v → ft (k * 9 + j) = v) (hk : k < 41) : ((cel 369 ft).drop (0 + k * 9)).take 9 = tkc a e t := by
  rw [cel_sub (by omega)]
  apply List.ext_getElem?
  intro i
  by_cases hi : i < 9
  · rw [cel_get hi]
    obtain ⟨v, hv⟩ : ∃ v, (tkc a e t)[i]? = some v := ⟨_, List.getElem?_eq_getElem (by simpa using hi)⟩
    rw [hv, ← h i v hv, Nat.zero_add]
  · rw [List.getElem?_eq_none (by rw [cel_len]; omega), List.getElem?_eq_none (by simp; omega)]

set_option maxHeartbeats 1000000 in
theorem look155 {w : World} {B : FB7} {T : List Tk} {k nn nv no : Nat} {pos er bd wi : Int} {hv dn : Bool} {ft : Nat → Value} (ho : FBo B) (hk : k ≤ T.length) (hT : T.length ≤ 40) (hB : Blk w.heap B.f (fml B (T.length + 1) k pos nn nv no hv dn er bd wi) 83) (hK : FB w.heap B.t 369 ft 189) (hV : TkV ft (T ++ [tkEnd])) :
    Ret Tryz.prog 155 [ptr B.f] w (fun v w' => ∃ a te : Nat, v = .agg (tkc a te (hdT (T.drop k))).toArray ∧ (∃ pos' er' bd', ((hdT (T.drop k)).k = 1 → er' ≠ 0) ∧ ((hdT (T.drop k)).k ≠ 1 → er' = er) ∧ Blk w'.heap B.f (fml B (T.length + 1) k pos' nn nv no hv dn er' bd' wi) 83) ∧ Fram (one B.f) w w') := by
  have hF : Fram (one B.f) w w := Fram.refl _ _
  have bt := hK.lt
  have bf := hB.lt
  generalize htt : hdT (T.drop k) = t
  obtain ⟨a, te, ha, he, hc⟩ := hV k t (by rw [← htt]; exact tok_at hk)
  have hrow := TkV.row (T := T) hc (by omega)
  refine ret_of Tryz.func155 rfl Tryz.ntmps155 rfl ?_
  refine c_seq (fun K1 hK1 => ?_)
  refine c_reg ?_ -- region 0 parse.go:23
  refine wl_new (ze_189) (fun rb w1 hbrb hR F1 => ?_)
  have hbsrb := Nat.le_trans hF.size hbrb
  have hneB.frb : B.f < rb := Nat.lt_of_lt_of_le hB.lt hbrb
  have hneB.trb : B.t < rb := Nat.lt_of_lt_of_le hK.lt hbrb
  replace hF := hF.thenDrew.thenN F1
  replace hB := F1.blkN hB
  replace hK := F1.blkN hK
  refine wl_nil (x_then (hK1 _ _ ?_))
  clear hK1 K1
  refine forget [(0, _), (2, _)] ⟨rfl, rfl, trivial⟩ (fun e => ?_)
  refine c_seq (fun K2 hK2 => ?_)
  refine c_piL 11 [(0, false), (1, false), (2, false), (3, false), (4, false), (5, false), (6, false), (7, false), (8, false), (9, false), (10, true)] (fun w' => Blk w'.heap B.f (fml B (T.length + 1) k pos nn nv no hv dn er bd wi) 83 ∧ FB w'.heap B.t 369 ft 189) mixed (by kernel_rfl) rfl (by kernel_rfl) (po_then (po_bp)) (⟨hB, hK⟩) ?_ -- region 1 parse.go:24
  refine ql_ro rfl (fun w hS => ro_move rfl) ?_
  refine ql_ro rfl (fun w hS => ro_nilCheck rfl) ?_
  refine ql_ro rfl (fun w hS => ro_fieldAddr (k := 0) rfl fo_83_0) ?_
  refine ql_ro rfl (fun w hS => ro_loadB rfl sc_77 (hS.1) (rfl)) ?_
  refine ql_ro rfl (fun w hS => ro_move rfl) ?_
  refine ql_ro rfl (fun w hS => ro_nilCheck rfl) ?_
  refine ql_ro rfl (fun w hS => ro_fieldAddr (k := 2) rfl fo_83_2) ?_
  refine ql_ro rfl (fun w hS => ro_loadB rfl sc_3 (hS.1) (rfl)) ?_
  refine ql_ro rfl (fun w hS => ro_indexAddr (et := 189) (k := 9) rfl rfl se_77 (rfl) ((by omega : k < 41))) ?_
  refine ql_ro rfl (fun w hS => ro_loadAggB rfl ag_189 (hS.2) (rfl) (hrow)) ?_
  refine ql_new rfl ze_189 (fun w1 F ↦ ⟨F.blkN hB, F.blkN hK⟩) ?_
  intro lb w2 hblb hL F2
  have hbslb := Nat.le_trans hF.size hblb
  have hneB.flb : B.f < lb := Nat.lt_of_lt_of_le hB.lt hblb
  have hneB.tlb : B.t < lb := Nat.lt_of_lt_of_le hK.lt hblb
  have hnerblb : rb < lb := Nat.lt_of_lt_of_le hR.lt hblb
  replace hF := hF.thenDrew.thenN F2
  replace hB := F2.blkN hB
  replace hK := F2.blkN hK
  replace hR := F2.blkN hR
  refine ql_puta rfl rfl rfl ((tkc_cells a te t)) sz_189 (rfl) hL ((by simp)) (rfl) (fun w3 hL F3 => ?_)
  replace hF := hF.thenDrew.thenO F3 (by first | exact .inr (by omega) | exact .inl rfl | exact .inl (by assumption))
  replace hB := F3.blkO hB (by first | (simp only [ne_eq, ho.all, not_false_eq_true]; done) | omega)
  replace hK := F3.blkO hK (by first | (simp only [ne_eq, ho.all, not_false_eq_true]; done) | omega)
  replace hR := F3.blkO hR (by first | (simp only [ne_eq, ho.all, not_false_eq_true]; done) | omega)
  refine x_then (hK2 _ _ ?_)
  clear hK2 K2
  refine forget [(0, _), (2, _), (3, _)] ⟨rfl, rfl, rfl, trivial⟩ (fun e => ?_)
  refine c_seq (fun K3 hK3 => ?_)
  refine c_reg ?_ -- region 2 parse.go:25
  refine wl (ro_move rfl) ?_
  refine wl (ro_fieldAddr (k := 1) rfl fo_189_1) ?_
  refine wl (ro_loadB rfl sc_3 (hL) (rfl)) ?_
  refine wl (ro_nilCheck rfl) ?_
  refine wl (ro_fieldAddr (k := 3) rfl fo_83_3) ?_
  refine wl_put rfl rfl rfl sz_3 hB ((by simp)) ((show _ = fml B (T.length + 1) k (a : Int) nn nv no hv dn er bd wi from rfl)) (fun w4 hB F4 => ?_)
  replace hF := hF.thenDrew.thenO F4 (by first | exact .inr (by omega) | exact .inl rfl | exact .inl (by assumption))
  replace hK := F4.blkO hK (by first | (simp only [ne_eq, ho.all, not_false_eq_true]; done) | omega)
  replace hR := F4.blkO hR (by first | (simp only [ne_eq, ho.all, not_false_eq_true]; done) | omega)
  replace hL := F4.blkO hL (by first | (simp only [ne_eq, ho.all, not_false_eq_true]; done) | omega)
  refine wl_nil (x_then (hK3 _ _ ?_))
  clear hK3 K3
  refine c_seq (fun K4 hK4 => ?_)
  refine c_seq (fun K5 hK5 => ?_)
  refine c_reg ?_ -- region 3 parse.go:26
  refine wl (ro_fieldAddr (k := 0) rfl fo_189_0) ?_
  refine wl (ro_loadB rfl sc_3 (hL) (rfl)) ?_
  refine wl (ro_cmp (r := decide (t.k = 1)) rfl rfl (congrArg some (beqc t.k 1))) ?_
  refine wl_nil (x_then (hK5 _ _ ?_))
  clear hK5 K5
  refine wc_cond rfl (fun hc21 => ?_) (fun hc21 => ?_)
  · try simp only [decide_eq_true_eq, decide_eq_false_iff_not, Bool.not_eq_true', Bool.not_eq_false', Bool.not_eq_eq_eq_not, Bool.not_true, Bool.not_false, beq_iff_eq, bne_iff_ne, ne_eq, beq_eq_false_iff_ne, bne_eq_false_iff_eq, gt_iff_lt, ge_iff_le, Int.not_lt, Int.not_le] at hc21
    refine c_reg ?_ -- region 4 parse.go:27
    refine wl (ro_move rfl) ?_
    refine wl (ro_fieldAddr (k := 1) rfl fo_189_1) ?_
    refine wl (ro_loadB rfl sc_3 (hL) (rfl)) ?_
    refine wl_call rfl en_160 (fail160 (by decide) hB) ?_
    rintro _ w9 ⟨rfl, ⟨er', bd', hne, hB⟩, F9⟩
    replace hF := hF.transG F9 (by intro k hk h; simp only [one, none'] at h ⊢ <;> omega)
    replace hK := F9.blkF hK (by intro h; simp only [one, none', ho.all, or_self, false_or, or_false] at h <;> omega)
    replace hR := F9.blkF hR (by intro h; simp only [one, none', ho.all, or_self, false_or, or_false] at h <;> omega)
    replace hL := F9.blkF hL (by intro h; simp only [one, none', ho.all, or_self, false_or, or_false] at h <;> omega)
    refine wl_nil (x_then (hK4 _ _ ?_))
    clear hK4 K4
    refine forget [(2, _), (3, _)] ⟨rfl, rfl, trivial⟩ (fun e => ?_)
    refine c_seq (fun K6 hK6 => ?_)
    refine c_reg ?_ -- region 5 parse.go:29
    refine wl (ro_loadAggB rfl ag_189 (hL) (rfl) (rfl)) ?_
    refine wl_puta rfl rfl ((tkc_cells a te t)) sz_189 (rfl) hR ((by simp)) (rfl) (fun w5 hR F5 => ?_)
    replace hF := hF.thenDrew.thenO F5 (by first | exact .inr (by omega) | exact .inl rfl | exact .inl (by assumption))
    replace hB := F5.blkO hB (by first | (simp only [ne_eq, ho.all, not_false_eq_true]; done) | omega)
    replace hK := F5.blkO hK (by first | (simp only [ne_eq, ho.all, not_false_eq_true]; done) | omega)
    replace hL := F5.blkO hL (by first | (simp only [ne_eq, ho.all, not_false_eq_true]; done) | omega)
    refine wl_nil (x_then (hK6 _ _ ?_))
    clear hK6 K6
    refine c_ret ?_
    refine bq_ret (res1 Tryz.results155 (rv_c rfl ag_189 (hR) rfl)) ?_
    exact ⟨a, te, rfl, ⟨_, er', bd', fun _ => hne, fun h => absurd hc21 h, hB⟩, hF⟩
  · try simp only [decide_eq_true_eq, decide_eq_false_iff_not, Bool.not_eq_true', Bool.not_eq_false', Bool.not_eq_eq_eq_not, Bool.not_true, Bool.not_false, beq_iff_eq, bne_iff_ne, ne_eq, beq_eq_false_iff_ne, bne_eq_false_iff_eq, gt_iff_lt, ge_iff_le, Int.not_lt, Int.not_le] at hc21
    refine c_skip (x_then (hK4 _ _ ?_))
    clear hK4 K4
    refine forget [(2, _), (3, _)] ⟨rfl, rfl, trivial⟩ (fun e => ?_)
    refine c_seq (fun K7 hK7 => ?_)
    refine c_reg ?_ -- region 5 parse.go:29
    refine wl (ro_loadAggB rfl ag_189 (hL) (rfl) (rfl)) ?_
    refine wl_puta rfl rfl ((tkc_cells a te t)) sz_189 (rfl) hR ((by simp)) (rfl) (fun w6 hR F6 => ?_)
    replace hF := hF.thenDrew.thenO F6 (by first | exact .inr (by omega) | exact .inl rfl | exact .inl (by assumption))
    replace hB := F6.blkO hB (by first | (simp only [ne_eq, ho.all, not_false_eq_true]; done) | omega)
    replace hK := F6.blkO hK (by first | (simp only [ne_eq, ho.all, not_false_eq_true]; done) | omega)
    replace hL := F6.blkO hL (by first | (simp only [ne_eq, ho.all, not_false_eq_true]; done) | omega)
    refine wl_nil (x_then (hK7 _ _ ?_))
    clear hK7 K7
    refine c_ret ?_
    refine bq_ret (res1 Tryz.results155 (rv_c rfl ag_189 (hR) rfl)) ?_
    exact ⟨a, te, rfl, ⟨_, er, bd, fun h => absurd h hc21, fun _ => rfl, hB⟩, hF⟩

theorem take161 {w : World} {B : FB7} {T : List Tk} {k nn nv no : Nat} {pos er bd wi : Int} {hv dn : Bool} {ft : Nat → Value} (ho : FBo B) (hk : k ≤ T.length) (hT : T.length ≤ 40) (hB : Blk w.heap B.f (fml B (T.length + 1) k pos nn nv no hv dn er bd wi) 83) (hK : FB w.heap B.t 369 ft 189) (hV : TkV ft (T ++ [tkEnd])) :
    Ret Tryz.prog 161 [ptr B.f] w (fun v w' => v = .tuple #[] ∧ (∃ pos', Blk w'.heap B.f (fml B (T.length + 1) (k + 1) pos' nn nv no hv dn er bd wi) 83) ∧ Fram (one B.f) w w') := by
  have hF : Fram (one B.f) w w := Fram.refl _ _
  obtain ⟨a, te, ha, he, hc⟩ := hV k _ (tok_at hk)
  have hx : ft (k * 9 + 2) = i64c te := hc 2 _ rfl
  refine ret_of Tryz.func161 rfl Tryz.ntmps161 rfl ?_
  refine c_seq (fun K1 hK1 => ?_)
  refine c_piL 14 [(0, false), (1, false), (2, false), (3, false), (4, false), (5, false), (6, false), (7, false), (8, false), (9, false), (10, false), (11, false), (12, false), (13, false)] (SameH _) mixed (by kernel_rfl) rfl (by kernel_rfl) (po_then (po_bp)) (sameH_now _ _) ?_ -- region 0 parse.go:34
  refine ql_ro rfl (fun w hS => ro_move rfl) ?_
  refine ql_ro rfl (fun w hS => ro_move rfl) ?_
  refine ql_ro rfl (fun w hS => ro_nilCheck rfl) ?_
  refine ql_ro rfl (fun w hS => ro_fieldAddr (k := 0) rfl fo_83_0) ?_
  refine ql_ro rfl (fun w hS => ro_loadB rfl sc_77 (Blk.of_heap hB hS) (rfl)) ?_
  refine ql_ro rfl (fun w hS => ro_move rfl) ?_
  refine ql_ro rfl (fun w hS => ro_nilCheck rfl) ?_
  refine ql_ro rfl (fun w hS => ro_fieldAddr (k := 2) rfl fo_83_2) ?_
  refine ql_ro rfl (fun w hS => ro_loadB rfl sc_3 (Blk.of_heap hB hS) (rfl)) ?_
  refine ql_ro rfl (fun w hS => ro_indexAddr (et := 189) (k := 9) rfl rfl se_77 (rfl) ((by omega : k < 41))) ?_
  refine ql_ro rfl (fun w hS => ro_fieldAddr (k := 2) rfl fo_189_2) ?_
  refine ql_ro rfl (fun w hS => ro_loadB rfl sc_3 (Blk.of_heap hK hS) (cel_at (k := k * 9 + 2) (by omega) (by omega) hx)) ?_
  refine ql_ro rfl (fun w hS => ro_nilCheck rfl) ?_
  refine ql_ro rfl (fun w hS => ro_fieldAddr (k := 3) rfl fo_83_3) ?_
  refine ql_put rfl rfl rfl rfl sz_3 hB ((by simp)) ((show _ = fml B (T.length + 1) k (te : Int) nn nv no hv dn er bd wi from rfl)) (fun w1 hB F1 => ?_)
  replace hF := hF.thenDrew.thenO F1 (by first | exact .inr (by omega) | exact .inl rfl | exact .inl (by assumption))
  replace hK := F1.blkO hK (by first | (simp only [ne_eq, ho.all, not_false_eq_true]; done) | omega)
  refine x_then (hK1 _ _ ?_)
  clear hK1 K1
  refine c_reg ?_ -- region 1 parse.go:35
  refine wl (ro_move rfl) ?_
  refine wl (ro_nilCheck rfl) ?_
  refine wl (ro_fieldAddr (k := 2) rfl fo_83_2) ?_
  refine wl (ro_loadB rfl sc_3 (hB) (rfl)) ?_
  refine wl (ro_arith (r := ((k + 1 : Nat) : Int)) rfl rfl rfl (Go.IntWalk.i64_in _ (by omega))) ?_
  refine wl (ro_nilCheck rfl) ?_
  refine wl (ro_fieldAddr (k := 2) rfl fo_83_2) ?_
  refine wl_put rfl rfl rfl sz_3 hB ((by simp)) ((show _ = fml B (T.length + 1) (k + 1) (te : Int) nn nv no hv dn er bd wi from rfl)) (fun w2 hB F2 => ?_)
  replace hF := hF.thenDrew.thenO F2 (by first | exact .inr (by omega) | exact .inl rfl | exact .inl (by assumption))
  replace hK := F2.blkO hK (by first | (simp only [ne_eq, ho.all, not_false_eq_true]; done) | omega)
  refine wl_nil ?_
  refine bp_end Tryz.results161 rfl ?_
  exact ⟨rfl, ⟨_, hB⟩, hF⟩

theorem strength156 {w : World} {o : Nat} : Ret Tryz.prog 156 [i64c o] w (fun v w' => v = i64c (strg o) ∧ w' = w) := by
  refine ret_of Tryz.func156 rfl Tryz.ntmps156 rfl ?_
  refine c_seq (fun K1 hK1 => ?_)
  refine c_reg ?_ -- region 0 parse.go:58
  refine wl (ro_assign rfl) ?_
  refine wl_nil (x_then (hK1 _ _ ?_))
  clear hK1 K1
  refine c_seq (fun K2 hK2 => ?_)
  refine c_seq (fun K3 hK3 => ?_)
  refine c_reg ?_ -- region 1 parse.go:59
  refine wl (ro_move rfl) ?_
  refine wl (ro_cmp (r := decide (o ≤ 6)) rfl rfl (congrArg some (decide_eq_decide.2 (by omega)))) ?_
  refine wl_nil (x_then (hK3 _ _ ?_))
  clear hK3 K3
  refine wc_cond rfl (fun hc4 => ?_) (fun hc4 => ?_)
  · try simp only [decide_eq_true_eq, decide_eq_false_iff_not, Bool.not_eq_true', Bool.not_eq_false', Bool.not_eq_eq_eq_not, Bool.not_true, Bool.not_false, beq_iff_eq, bne_iff_ne, ne_eq, beq_eq_false_iff_ne, bne_eq_false_iff_eq, gt_iff_lt, ge_iff_le, Int.not_lt, Int.not_le] at hc4
    refine c_seq (fun K4 hK4 => ?_)
    refine c_reg ?_ -- region 2 parse.go:60
    refine wl (ro_assign rfl) ?_
    refine wl_nil (x_then (hK4 _ _ ?_))
    clear hK4 K4
    refine c_ret (x_thenR ?_)
    refine bp_ret Tryz.results156 rfl ?_
    exact ⟨by unfold strg; rw [if_pos hc4]; rfl, rfl⟩
  · try simp only [decide_eq_true_eq, decide_eq_false_iff_not, Bool.not_eq_true', Bool.not_eq_false', Bool.not_eq_eq_eq_not, Bool.not_true, Bool.not_false, beq_iff_eq, bne_iff_ne, ne_eq, beq_eq_false_iff_ne, bne_eq_false_iff_eq, gt_iff_lt, ge_iff_le, Int.not_lt, Int.not_le] at hc4
    refine c_skip (x_then (hK2 _ _ ?_))
    clear hK2 K2
    refine c_seq (fun K5 hK5 => ?_)
    refine c_seq (fun K6 hK6 => ?_)
    refine c_reg ?_ -- region 3 parse.go:62
    refine wl (ro_move rfl) ?_
    refine wl (ro_cmp (r := decide (o ≤ 8)) rfl rfl (congrArg some (decide_eq_decide.2 (by omega)))) ?_
    refine wl_nil (x_then (hK6 _ _ ?_))
    clear hK6 K6
    refine wc_cond rfl (fun hc6 => ?_) (fun hc6 => ?_)
    · try simp only [decide_eq_true_eq, decide_eq_false_iff_not, Bool.not_eq_true', Bool.not_eq_false', Bool.not_eq_eq_eq_not, Bool.not_true, Bool.not_false, beq_iff_eq, bne_iff_ne, ne_eq, beq_eq_false_iff_ne, bne_eq_false_iff_eq, gt_iff_lt, ge_iff_le, Int.not_lt, Int.not_le] at hc6
      refine c_seq (fun K7 hK7 => ?_)
      refine c_reg ?_ -- region 4 parse.go:63
      refine wl (ro_assign rfl) ?_
      refine wl_nil (x_then (hK7 _ _ ?_))
      clear hK7 K7
      refine c_ret (x_thenR ?_)
      refine bp_ret Tryz.results156 rfl ?_
      exact ⟨by unfold strg; rw [if_neg (by omega), if_pos hc6]; rfl, rfl⟩
    · try simp only [decide_eq_true_eq, decide_eq_false_iff_not, Bool.not_eq_true', Bool.not_eq_false', Bool.not_eq_eq_eq_not, Bool.not_true, Bool.not_false, beq_iff_eq, bne_iff_ne, ne_eq, beq_eq_false_iff_ne, bne_eq_false_iff_eq, gt_iff_lt, ge_iff_le, Int.not_lt, Int.not_le] at hc6
      refine c_skip (x_then (hK5 _ _ ?_))
      clear hK5 K5
      refine forget [] trivial (fun e => ?_)
      refine c_seq (fun K8 hK8 => ?_)
      refine c_reg ?_ -- region 5 parse.go:65
      refine wl (ro_assign rfl) ?_
      refine wl_nil (x_then (hK8 _ _ ?_))
      clear hK8 K8
      refine c_ret ?_
      refine bp_ret Tryz.results156 rfl ?_
      exact ⟨by unfold strg; rw [if_neg (by omega), if_neg (by omega)]; rfl, rfl⟩

end Go.Proofs.Qxb6500570aGreat
