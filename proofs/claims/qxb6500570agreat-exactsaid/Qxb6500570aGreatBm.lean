import Derived.Test.Qxb6500570aGreatBl
import Derived.Test.Qxb6500570aGreatHa
import Derived.Test.Qxb6500570aGreatFe
/- The real former: copies of trees; the whole parse. -/
namespace Go.Proofs.Qxb6500570aGreat
set_option linter.unusedVariables false
set_option linter.unusedSimpArgs false

theorem ndc_len (x : Nd) : (ndc x).length = 13 := rfl
theorem rws_get {α : Type} {enc : α → List Value} {k : Nat} (hk : ∀ x, (enc x).length = k) {L : List α} {i j : Nat} {x : α} (h : L[i]? = some x) (hj : j < k) : (rws enc L)[i * k + j]? = (enc x)[j]? := by
  have := congrArg (fun l => l[j]?) (rws_at hk h)
  simp only [List.getElem?_take, hj, if_true, List.getElem?_drop] at this
  exact this
theorem NdV.rws {f : Nat → Value} {ar : List Nd} (h : NdV f ar) : cel (ar.length * 13) f = rws ndc ar := by
  apply List.ext_getElem?
  intro i
  by_cases hi : i < ar.length * 13
  · rw [cel_get hi]
    have hk : i / 13 < ar.length := by omega
    have hj : i % 13 < 13 := by omega
    have hx := List.getElem?_eq_getElem hk
    have h1 := rws_get (enc := ndc) ndc_len hx hj
    rw [show i / 13 * 13 + i % 13 = i by omega] at h1
    rw [h1]
    have h2 : (ndc ar[i / 13])[i % 13]? = some (ndc ar[i / 13])[i % 13] := List.getElem?_eq_getElem _
    rw [h2, ← h _ _ hx _ _ h2, show i / 13 * 13 + i % 13 = i by omega]
  · rw [List.getElem?_eq_none (by rw [cel_len]; omega), List.getElem?_eq_none (by rw [rws_len ndc_len]; omega)]
theorem NdV.cell {f : Nat → Value} {ar : List Nd} (h : NdV f ar) {i : Nat} (hi : i < ar.length * 13) : (f i).oneCell' = true := by
  have hk : i / 13 < ar.length := by omega
  have hx := List.getElem?_eq_getElem hk
  have hj : i % 13 < (ndc ar[i / 13]).length := by rw [ndc_len]; omega
  have h2 : (ndc ar[i / 13])[i % 13]? = some (ndc ar[i / 13])[i % 13] := List.getElem?_eq_getElem hj
  have := h _ _ hx _ _ h2
  rw [show i / 13 * 13 + i % 13 = i by omega] at this
  rw [this]
  exact ndc_cells _ _ (List.getElem_mem _)
theorem NdV.of_rws {ar : List Nd} : NdV (fun j => (Go.Proofs.Qxb6500570aGreat.rws ndc ar).getD j undef) ar := by
  intro k x hx j v hj
  have hj13 := (List.getElem?_eq_some_iff.1 hj).1
  have := rws_get (enc := ndc) ndc_len hx (j := j) (by simpa using hj13)
  show (Go.Proofs.Qxb6500570aGreat.rws ndc ar).getD _ _ = _
  rw [List.getD, this, hj]
  rfl

theorem CopyNodes103 {w : World} {b N cap : Nat} {f : Nat → Value} {ar : List Nd} (hA : FB w.heap b N f 143) (hN : NdV f ar) (hl : 1 ≤ ar.length) (hl2 : ar.length ≤ 1000) (hl3 : ar.length * 13 ≤ N) :
    Ret Tryz.prog 103 [.slice (some ⟨b, 0, none⟩) ar.length cap] w (fun v w' => ∃ qb, v = sl qb ar.length ∧ w.heap.size ≤ qb ∧ Blk w'.heap qb (rws ndc ar) 143 ∧ Fram none' w w') := by
  have hF : Fram none' w w := Fram.refl _ _
  refine ret_of Tryz.func103 rfl Tryz.ntmps103 rfl ?_
  refine c_seq (fun K1 hK1 => ?_)
  refine c_reg ?_ -- region 0 const.go:378
  refine wl (ro_assign rfl) ?_
  refine wl_nil (x_then (hK1 _ _ ?_))
  clear hK1 K1
  refine c_seq (fun K2 hK2 => ?_)
  refine c_seq (fun K3 hK3 => ?_)
  refine c_reg ?_ -- region 1 const.go:379
  refine wl (ro_move rfl) ?_
  refine wl (ro_lenL rfl se_78) ?_
  refine wl (ro_cmp (r := false) rfl rfl (congrArg some ((beqc ar.length 0).trans (decide_eq_false (by omega))))) ?_
  refine wl_nil (x_then (hK3 _ _ ?_))
  clear hK3 K3
  refine wc_condF rfl ?_
  refine c_skip (x_then (hK2 _ _ ?_))
  clear hK2 K2
  refine forget [(0, _)] ⟨rfl, trivial⟩ (fun e => ?_)
  refine c_seq (fun K4 hK4 => ?_)
  refine c_reg ?_ -- region 3 const.go:382
  refine wl (ro_move rfl) ?_
  refine wl (ro_lenL rfl se_78) ?_
  refine wl_make (len := ar.length) (cap := ar.length) rfl rfl se_78 ze_143 (by simp) (by omega) (by omega) rfl bb_143 (fun qb w1 hbqb hQ F1 => ?_)
  have hbsqb := Nat.le_trans hF.size hbqb
  have hnebqb : b < qb := Nat.lt_of_lt_of_le hA.lt hbqb
  replace hF := hF.thenDrew.thenN F1
  replace hA := F1.blkN hA
  refine wl (ro_assign rfl) ?_
  refine wl_nil (x_then (hK4 _ _ ?_))
  clear hK4 K4
  refine forget [(0, _), (3, _)] ⟨rfl, rfl, trivial⟩ (fun e => ?_)
  refine c_seq (fun K5 hK5 => ?_)
  refine c_reg ?_ -- region 4 const.go:383
  refine wl (ro_move rfl) ?_
  refine wl (ro_move rfl) ?_
  refine wl_copy (m := ar.length) (k := 13) rfl rfl se_78 hQ hA (Nat.min_self _) (fun j hj ↦ ?_) (by omega) (by omega) (fun w3 hQ F3 ↦ ?_)
  · rw [Nat.zero_add]; exact hN.cell hj
  replace hF := hF.thenO F3 (.inr (by omega))
  refine wl_nil (x_then (hK5 _ _ ?_))
  clear hK5 K5
  refine forget [(3, _)] ⟨rfl, trivial⟩ (fun e => ?_)
  refine c_seq (fun K6 hK6 => ?_)
  refine c_reg ?_ -- region 5 const.go:384
  refine wl (ro_move rfl) ?_
  refine wl (ro_assign rfl) ?_
  refine wl_nil (x_then (hK6 _ _ ?_))
  clear hK6 K6
  refine c_ret ?_
  refine bp_ret Tryz.results103 rfl ?_
  refine ⟨qb, rfl, by omega, ?_, hF⟩
  rw [← hN.rws]
  have : cel (ar.length * 13) f = cel (ar.length * 13) (cpf (zc [.int .i64 0, .int .i64 0, .int .i64 0, .int .i64 0, .int .i64 0, .int .i64 0, .int .i64 0, .bool false, .bool false, .int .i64 0, .int .i64 0, .bool false, .bool false]) 0 f 0 (ar.length * 13)) := cel_congr (fun j hj => by rw [cpf_in (by omega) (by omega)]; congr 1; omega)
  rw [this]
  exact hQ

/-- What a text means. -/
def prs (s : List UInt8) : Option (List Nd) := if s.length ≤ 40 then parseP s else none
/-- A tree in memory. -/
def TrV (w0 w : World) (V : Value) (o : Option (List Nd)) : Prop := match o with
  | some ar => ∃ qb, V = .agg #[sl qb ar.length, icv ((ar.length : Int) - 1), icv 0, icv 0] ∧ w0.heap.size ≤ qb ∧ Blk w.heap qb (rws ndc ar) 143
  | none => ∃ er bd : Int, er ≠ 0 ∧ V = .agg #[.slice none 0 0, icv (-1), icv er, icv bd]
/-- The former at rest. -/
def FmR (w : World) (B : FB7) : Prop := ∃ (k : Nat) (pos er bd wi : Int) (hv dn : Bool) (ft fa fv fo fn fu : Nat → Value), Blk w.heap B.f (fml B 0 k pos 0 0 0 hv dn er bd wi) 83 ∧ FB w.heap B.t 369 ft 189 ∧ FB w.heap B.a 312 fa 143 ∧ FB w.heap B.v 41 fv 3 ∧ FB w.heap B.o 205 fo 197 ∧ FB w.heap B.n 48 fn 201 ∧ FB w.heap B.u 288 fu 5

/-- The parse at work: it runs, it has failed, it is done. -/
def PRS (B : FB7) (T : List Tk) (Rz : Option (List Nd)) (m : Nat) (w' : World) : Prop :=
  (∃ st k, m = st.ts.length + 1 ∧ FW w' B T k st.ar (ci st.ov) st.os st.hv false false ∧ st.ts = T.drop k ∧ R st = Rz ∧ PI st ∧ st.ov.length ≤ k ∧ st.os.length ≤ k)
  ∨ (m = 0 ∧ Rz = none ∧ ∃ k ar ov os hv dn, FW w' B T k ar ov os hv dn true)
  ∨ (m = 0 ∧ ∃ ar k ov os hv, Rz = some ar ∧ DoneOK ar ∧ FW w' B T k ar ov os hv true false)
theorem PRS.next {B : FB7} {T : List Tk} {Rz : Option (List Nd)} {w' : World} {st : PS} (hR : R st = Rz) (hp : PI st) (ht : ∀ t ∈ T, TkOK t) {k : Nat} (hts : st.ts = T.drop k) (h : RdP B T w' (stepM st)) : ∃ m', m' < st.ts.length + 1 ∧ PRS B T Rz m' w' := by
  rw [R_eq] at hR
  have hok := fun x => stepM_ok (x := x) hp (hdT_ok (fun t h => ht t (by rw [hts] at h; exact List.mem_of_mem_drop h)))
  rcases h with ⟨st', k', ho, hts', V, h1, h2⟩ | ⟨ho, k', ar', ov', os', hv', dn', V⟩ | ⟨ar', k', ov', os', hv', ho, V⟩
  · refine ⟨st'.ts.length + 1, by have := stepM_ts ho; omega, .inl ⟨st', k', rfl, V, hts', ?_, hok _ ho, h1, h2⟩⟩
    rw [ho] at hR
    exact hR
  · rw [ho] at hR
    exact ⟨0, by omega, .inr (.inl ⟨rfl, hR.symm, _, _, _, _, _, _, V⟩)⟩
  · have := hok _ ho
    rw [ho] at hR
    exact ⟨0, by omega, .inr (.inr ⟨rfl, _, _, _, _, _, hR.symm, this, V⟩)⟩
theorem RnP.toRd {B : FB7} {T : List Tk} {w' : World} {o : Option PS} (h : RnP B T false w' o) : RdP B T w' (o.map .inl) := by
  rcases h with ⟨st, k', rfl, h1, V, h2, h3⟩ | ⟨rfl, k', ar', ov', os', hv', V⟩
  · exact .inl ⟨st, k', rfl, h1, V, h2, h3⟩
  · exact .inr (.inl ⟨rfl, _, _, _, _, _, _, V⟩)

def ft2 (B : FB7) : Nat → Prop := fun b => b = B.f ∨ b = B.t

set_option maxHeartbeats 4000000 in
theorem Parse97 {w : World} {B : FB7} {s : List UInt8} (ho : FBo B) (hR : FmR w B) (hsm : s.length ≤ 9223372036854775807) :
    Ret Tryz.prog 97 [ptr B.f, S s] w (fun v w' => TrV w w' v (prs s) ∧ FmR w' B ∧ Fram (fset B) w w') := by
  have hF : Fram (fset B) w w := Fram.refl _ _
  obtain ⟨k, pos, er, bd, wi, hv, dn, ft, fa, fv, fo, fn, fu, hB, hK, hA, hV, hO, hN, hU⟩ := hR
  have hm1 : fset B B.f := .inl rfl
  refine ret_of Tryz.func97 rfl Tryz.ntmps97 rfl ?_
  refine c_seq (fun K1 hK1 => ?_)
  refine c_reg ?_ -- region 0 form.go:38
  refine wl_new (ze_113) (fun mb w1 hbmb hM F1 => ?_)
  have hbsmb := Nat.le_trans hF.size hbmb
  have hneB.fmb : B.f < mb := Nat.lt_of_lt_of_le hB.lt hbmb
  have hneB.tmb : B.t < mb := Nat.lt_of_lt_of_le hK.lt hbmb
  have hneB.amb : B.a < mb := Nat.lt_of_lt_of_le hA.lt hbmb
  have hneB.vmb : B.v < mb := Nat.lt_of_lt_of_le hV.lt hbmb
  have hneB.omb : B.o < mb := Nat.lt_of_lt_of_le hO.lt hbmb
  have hneB.nmb : B.n < mb := Nat.lt_of_lt_of_le hN.lt hbmb
  have hneB.umb : B.u < mb := Nat.lt_of_lt_of_le hU.lt hbmb
  replace hF := hF.thenDrew.thenN F1
  replace hB := F1.blkN hB
  replace hK := F1.blkN hK
  replace hA := F1.blkN hA
  replace hV := F1.blkN hV
  replace hO := F1.blkN hO
  replace hN := F1.blkN hN
  replace hU := F1.blkN hU
  refine wl_nil (x_then (hK1 _ _ ?_))
  clear hK1 K1
  refine c_seq (fun K2 hK2 => ?_)
  refine c_seq (fun K3 hK3 => ?_)
  refine c_reg ?_ -- region 1 form.go:39
  refine wl (ro_move rfl) ?_
  refine wl (ro_lenS rfl st_9) ?_
  refine wl (ro_cmp (r := decide (s.length > 40)) rfl rfl (congrArg some (decide_eq_decide.2 (by omega)))) ?_
  refine wl_nil (x_then (hK3 _ _ ?_))
  clear hK3 K3
  refine wc_cond rfl (fun hc8 => ?_) (fun hc8 => ?_)
  · try simp only [decide_eq_true_eq, decide_eq_false_iff_not, Bool.not_eq_true', Bool.not_eq_false', Bool.not_eq_eq_eq_not, Bool.not_true, Bool.not_false, beq_iff_eq, bne_iff_ne, ne_eq, beq_eq_false_iff_ne, bne_eq_false_iff_eq, gt_iff_lt, ge_iff_le, Int.not_lt, Int.not_le] at hc8
    refine c_seq (fun K4 hK4 => ?_)
    refine c_reg ?_ -- region 2 form.go:40
    refine wl (ro_build rfl bld_113_1_2) ?_
    refine wl_puta rfl rfl (by simp [Value.oneCell', i64c, u64c, u8c, ptr]) sz_113 (rfl) hM ((by simp)) (rfl) (fun w2 hM F2 => ?_)
    replace hF := hF.thenDrew.thenO F2 (by first | exact .inr (by omega) | exact .inl rfl | exact .inl (by assumption))
    replace hB := F2.blkO hB (by first | (simp only [ne_eq, ho.all, not_false_eq_true]; done) | omega)
    replace hK := F2.blkO hK (by first | (simp only [ne_eq, ho.all, not_false_eq_true]; done) | omega)
    replace hA := F2.blkO hA (by first | (simp only [ne_eq, ho.all, not_false_eq_true]; done) | omega)
    replace hV := F2.blkO hV (by first | (simp only [ne_eq, ho.all, not_false_eq_true]; done) | omega)
    replace hO := F2.blkO hO (by first | (simp only [ne_eq, ho.all, not_false_eq_true]; done) | omega)
    replace hN := F2.blkO hN (by first | (simp only [ne_eq, ho.all, not_false_eq_true]; done) | omega)
    replace hU := F2.blkO hU (by first | (simp only [ne_eq, ho.all, not_false_eq_true]; done) | omega)
    refine wl_nil (x_then (hK4 _ _ ?_))
    clear hK4 K4
    refine c_ret (x_thenR ?_)
    refine bq_ret (res1 Tryz.results97 (rv_c rfl ag_113 (hM) rfl)) ?_
    exact ⟨by unfold prs; rw [if_neg (by omega)]; exact ⟨1, 0, by decide, rfl⟩, ⟨_, _, _, _, _, _, _, _, _, _, _, _, _, hB, hK, hA, hV, hO, hN, hU⟩, hF⟩
  · try simp only [decide_eq_true_eq, decide_eq_false_iff_not, Bool.not_eq_true', Bool.not_eq_false', Bool.not_eq_eq_eq_not, Bool.not_true, Bool.not_false, beq_iff_eq, bne_iff_ne, ne_eq, beq_eq_false_iff_ne, bne_eq_false_iff_eq, gt_iff_lt, ge_iff_le, Int.not_lt, Int.not_le] at hc8
    have hl : s.length ≤ 40 := by omega
    have hpe : prs s = parseP s := by unfold prs; rw [if_pos hl]
    have htl := toks_len _ s (Nat.le_refl _)
    have hto := toks_ok _ s (Nat.le_refl _)
    have htf := toks_flt _ s (Nat.le_refl _)
    refine c_skip (x_then (hK2 _ _ ?_))
    clear hK2 K2
    refine forget [(0, _), (1, _), (4, _)] ⟨rfl, rfl, rfl, trivial⟩ (fun e => ?_)
    refine c_seq (fun K5 hK5 => ?_)
    refine c_reg ?_ -- region 3 form.go:42
    refine wl (ro_move rfl) ?_
    refine wl (ro_move rfl) ?_
    refine wl_call rfl en_125 (scan125 ho hl hB hK) ?_
    rintro _ u4 ⟨rfl, hB, ⟨ft4, hK, htv⟩, G4⟩
    replace G4 : Fram (ft2 B) _ u4 := G4
    replace hF := hF.transG G4 (by intro k hk h; simp only [one, none', fset, ft2] at h ⊢ <;> omega)
    replace hA := G4.blkF hA (by intro h; simp only [one, none', fset, ft2, ho.all, or_self, false_or, or_false] at h <;> omega)
    replace hV := G4.blkF hV (by intro h; simp only [one, none', fset, ft2, ho.all, or_self, false_or, or_false] at h <;> omega)
    replace hO := G4.blkF hO (by intro h; simp only [one, none', fset, ft2, ho.all, or_self, false_or, or_false] at h <;> omega)
    replace hN := G4.blkF hN (by intro h; simp only [one, none', fset, ft2, ho.all, or_self, false_or, or_false] at h <;> omega)
    replace hU := G4.blkF hU (by intro h; simp only [one, none', fset, ft2, ho.all, or_self, false_or, or_false] at h <;> omega)
    replace hM := G4.blkF hM (by intro h; simp only [one, none', fset, ft2, ho.all, or_self, false_or, or_false] at h <;> omega)
    generalize hT : toks s = T at hB htv htl hto htf
    refine wl_nil (x_then (hK5 _ _ ?_))
    clear hK5 K5
    refine forget [(0, _), (4, _)] ⟨rfl, rfl, trivial⟩ (fun e => ?_)
    refine c_seq (fun K6 hK6 => ?_)
    refine c_reg ?_ -- region 4 form.go:43
    refine wl (ro_move rfl) ?_
    refine wl (ro_move rfl) ?_
    refine wl (ro_move rfl) ?_
    refine wl (ro_move rfl) ?_
    refine wl (ro_move rfl) ?_
    refine wl (ro_move rfl) ?_
    refine wl (ro_nilCheck rfl) ?_
    refine wl (ro_fieldAddr (k := 2) rfl fo_83_2) ?_
    refine wl_put rfl rfl rfl sz_3 hB ((by simp)) ((show _ = fml B (T.length + 1) 0 pos 0 0 0 hv dn er bd wi from rfl)) (fun w3 hB F3 => ?_)
    replace hF := hF.thenDrew.thenO F3 (by first | exact .inr (by omega) | exact .inl rfl | exact .inl (by assumption))
    replace hK := F3.blkO hK (by first | (simp only [ne_eq, ho.all, not_false_eq_true]; done) | omega)
    replace hA := F3.blkO hA (by first | (simp only [ne_eq, ho.all, not_false_eq_true]; done) | omega)
    replace hV := F3.blkO hV (by first | (simp only [ne_eq, ho.all, not_false_eq_true]; done) | omega)
    replace hO := F3.blkO hO (by first | (simp only [ne_eq, ho.all, not_false_eq_true]; done) | omega)
    replace hN := F3.blkO hN (by first | (simp only [ne_eq, ho.all, not_false_eq_true]; done) | omega)
    replace hU := F3.blkO hU (by first | (simp only [ne_eq, ho.all, not_false_eq_true]; done) | omega)
    replace hM := F3.blkO hM (by first | (simp only [ne_eq, ho.all, not_false_eq_true]; done) | omega)
    refine wl (ro_nilCheck rfl) ?_
    refine wl (ro_fieldAddr (k := 3) rfl fo_83_3) ?_
    refine wl_put rfl rfl rfl sz_3 hB ((by simp)) ((show _ = fml B (T.length + 1) 0 0 0 0 0 hv dn er bd wi from rfl)) (fun w4 hB F4 => ?_)
    replace hF := hF.thenDrew.thenO F4 (by first | exact .inr (by omega) | exact .inl rfl | exact .inl (by assumption))
    replace hK := F4.blkO hK (by first | (simp only [ne_eq, ho.all, not_false_eq_true]; done) | omega)
    replace hA := F4.blkO hA (by first | (simp only [ne_eq, ho.all, not_false_eq_true]; done) | omega)
    replace hV := F4.blkO hV (by first | (simp only [ne_eq, ho.all, not_false_eq_true]; done) | omega)
    replace hO := F4.blkO hO (by first | (simp only [ne_eq, ho.all, not_false_eq_true]; done) | omega)
    replace hN := F4.blkO hN (by first | (simp only [ne_eq, ho.all, not_false_eq_true]; done) | omega)
    replace hU := F4.blkO hU (by first | (simp only [ne_eq, ho.all, not_false_eq_true]; done) | omega)
    replace hM := F4.blkO hM (by first | (simp only [ne_eq, ho.all, not_false_eq_true]; done) | omega)
    refine wl (ro_nilCheck rfl) ?_
    refine wl (ro_fieldAddr (k := 10) rfl fo_83_10) ?_
    refine wl_put rfl rfl rfl sz_4 hB ((by simp)) ((show _ = fml B (T.length + 1) 0 0 0 0 0 false dn er bd wi from rfl)) (fun w5 hB F5 => ?_)
    replace hF := hF.thenDrew.thenO F5 (by first | exact .inr (by omega) | exact .inl rfl | exact .inl (by assumption))
    replace hK := F5.blkO hK (by first | (simp only [ne_eq, ho.all, not_false_eq_true]; done) | omega)
    replace hA := F5.blkO hA (by first | (simp only [ne_eq, ho.all, not_false_eq_true]; done) | omega)
    replace hV := F5.blkO hV (by first | (simp only [ne_eq, ho.all, not_false_eq_true]; done) | omega)
    replace hO := F5.blkO hO (by first | (simp only [ne_eq, ho.all, not_false_eq_true]; done) | omega)
    replace hN := F5.blkO hN (by first | (simp only [ne_eq, ho.all, not_false_eq_true]; done) | omega)
    replace hU := F5.blkO hU (by first | (simp only [ne_eq, ho.all, not_false_eq_true]; done) | omega)
    replace hM := F5.blkO hM (by first | (simp only [ne_eq, ho.all, not_false_eq_true]; done) | omega)
    refine wl (ro_nilCheck rfl) ?_
    refine wl (ro_fieldAddr (k := 11) rfl fo_83_11) ?_
    refine wl_put rfl rfl rfl sz_4 hB ((by simp)) ((show _ = fml B (T.length + 1) 0 0 0 0 0 false false er bd wi from rfl)) (fun w6 hB F6 => ?_)
    replace hF := hF.thenDrew.thenO F6 (by first | exact .inr (by omega) | exact .inl rfl | exact .inl (by assumption))
    replace hK := F6.blkO hK (by first | (simp only [ne_eq, ho.all, not_false_eq_true]; done) | omega)
    replace hA := F6.blkO hA (by first | (simp only [ne_eq, ho.all, not_false_eq_true]; done) | omega)
    replace hV := F6.blkO hV (by first | (simp only [ne_eq, ho.all, not_false_eq_true]; done) | omega)
    replace hO := F6.blkO hO (by first | (simp only [ne_eq, ho.all, not_false_eq_true]; done) | omega)
    replace hN := F6.blkO hN (by first | (simp only [ne_eq, ho.all, not_false_eq_true]; done) | omega)
    replace hU := F6.blkO hU (by first | (simp only [ne_eq, ho.all, not_false_eq_true]; done) | omega)
    replace hM := F6.blkO hM (by first | (simp only [ne_eq, ho.all, not_false_eq_true]; done) | omega)
    refine wl (ro_nilCheck rfl) ?_
    refine wl (ro_fieldAddr (k := 12) rfl fo_83_12) ?_
    refine wl_put rfl rfl rfl sz_26 hB ((by simp)) ((show _ = fml B (T.length + 1) 0 0 0 0 0 false false 0 bd wi from rfl)) (fun w7 hB F7 => ?_)
    replace hF := hF.thenDrew.thenO F7 (by first | exact .inr (by omega) | exact .inl rfl | exact .inl (by assumption))
    replace hK := F7.blkO hK (by first | (simp only [ne_eq, ho.all, not_false_eq_true]; done) | omega)
    replace hA := F7.blkO hA (by first | (simp only [ne_eq, ho.all, not_false_eq_true]; done) | omega)
    replace hV := F7.blkO hV (by first | (simp only [ne_eq, ho.all, not_false_eq_true]; done) | omega)
    replace hO := F7.blkO hO (by first | (simp only [ne_eq, ho.all, not_false_eq_true]; done) | omega)
    replace hN := F7.blkO hN (by first | (simp only [ne_eq, ho.all, not_false_eq_true]; done) | omega)
    replace hU := F7.blkO hU (by first | (simp only [ne_eq, ho.all, not_false_eq_true]; done) | omega)
    replace hM := F7.blkO hM (by first | (simp only [ne_eq, ho.all, not_false_eq_true]; done) | omega)
    refine wl (ro_nilCheck rfl) ?_
    refine wl (ro_fieldAddr (k := 13) rfl fo_83_13) ?_
    refine wl_put rfl rfl rfl sz_3 hB ((by simp)) ((show _ = fml B (T.length + 1) 0 0 0 0 0 false false 0 0 wi from rfl)) (fun w8 hB F8 => ?_)
    replace hF := hF.thenDrew.thenO F8 (by first | exact .inr (by omega) | exact .inl rfl | exact .inl (by assumption))
    replace hK := F8.blkO hK (by first | (simp only [ne_eq, ho.all, not_false_eq_true]; done) | omega)
    replace hA := F8.blkO hA (by first | (simp only [ne_eq, ho.all, not_false_eq_true]; done) | omega)
    replace hV := F8.blkO hV (by first | (simp only [ne_eq, ho.all, not_false_eq_true]; done) | omega)
    replace hO := F8.blkO hO (by first | (simp only [ne_eq, ho.all, not_false_eq_true]; done) | omega)
    replace hN := F8.blkO hN (by first | (simp only [ne_eq, ho.all, not_false_eq_true]; done) | omega)
    replace hU := F8.blkO hU (by first | (simp only [ne_eq, ho.all, not_false_eq_true]; done) | omega)
    replace hM := F8.blkO hM (by first | (simp only [ne_eq, ho.all, not_false_eq_true]; done) | omega)
    refine wl_nil (x_then (hK6 _ _ ?_))
    clear hK6 K6
    refine forget [(0, _), (4, _)] ⟨rfl, rfl, trivial⟩ (fun e => ?_)
    refine c_seq (fun K7 hK7 => ?_)
    refine c_block ?_
    -- loop@r5: live slots [0, 4]
    have V0 : PRS B T (parseP s) (T.length + 1) _ := .inl ⟨⟨T, [], [], [], false⟩, 0, rfl, ⟨_, _, _, _, _, _, _, _, ⟨hB, hK, hA, hV, hO, htv, NdV.nil _, OvV.nil _, MkV.nil _, Nat.zero_le _, by omega, Nat.zero_le _⟩, rfl⟩, rfl, by unfold parseP; rw [hT], ⟨Nat.zero_le _, fun _ => ⟨rfl, rfl⟩, fun h => (by cases h)⟩, Nat.zero_le _, Nat.zero_le _⟩
    refine c_loopG (fun m a' w' => PRS B T (parseP s) m w' ∧ FB w'.heap B.n 48 fn 201 ∧ FB w'.heap B.u 288 fu 5 ∧ Blk w'.heap mb [.slice none 0 0, icv 0, icv 0, icv 0] 113 ∧ Fram (fset B) w w' ∧ ∃ e, a' = Fr 94 (upds e [(0, ptr B.f), (4, ptr mb)]) []) (T.length + 1) ⟨V0, hN, hU, hM, hF, kp _ ⟨rfl, rfl, trivial⟩⟩ ?_
    clear hB hK hA hV hO hN hU hM hF V0 htv
    rintro m a' u5 ⟨hst, hN, hU, hM, hF, e, rfl⟩
    refine c_seq (fun K8 hK8 => ?_)
    refine c_seq (fun K9 hK9 => ?_)
    rcases hst with ⟨st, k, rfl, V, hts, hRz, hPI, hk1, hk2⟩ | ⟨rfl, hRz, k, ar, ov, os, hv, dn, V⟩ | ⟨rfl, ar, k, ov, os, hv, hRz, hD', V⟩
    · skip
      have Vc := V
      obtain ⟨pos, er, bd, wi, ft, fa, fv, fo, ⟨hB, hK, hA, hV, hO, htv, hav, hvv, hmv, hkT, hlT, hla⟩, hbad⟩ := Vc
      have her : er = 0 := by simpa using hbad
      refine c_reg ?_ -- region 5 form.go:44
      refine wl (ro_move rfl) ?_
      refine wl (ro_nilCheck rfl) ?_
      refine wl (ro_fieldAddr (k := 12) rfl fo_83_12) ?_
      refine wl (ro_loadB rfl sc_26 (hB) (rfl)) ?_
      refine wl (ro_cmp (r := true) rfl rfl (congrArg some (by simpa using her))) ?_
      refine wl (ro_move rfl) ?_
      refine wlg_yes rfl (ro_move rfl) ?_
      refine wlg_yes rfl (ro_nilCheck rfl) ?_
      refine wlg_yes rfl (ro_fieldAddr (k := 11) rfl fo_83_11) ?_
      refine wlg_yes rfl (ro_loadB rfl sc_4 (hB) (rfl)) ?_
      refine wlg_yes rfl (ro_not rfl) ?_
      refine wl (ro_pick rfl rfl rfl) ?_
      refine wl_nil (x_then (hK9 _ _ ?_))
      clear hK9 K9
      refine wc_condT rfl ?_
      refine c_skip (x_then (hK8 _ _ ?_))
      clear hK8 K8
      refine c_block ?_
      refine forget [(0, _), (4, _), (37, _), (38, _), (39, _), (40, _), (41, _)] ⟨rfl, rfl, rfl, rfl, rfl, rfl, rfl, trivial⟩ (fun e => ?_)
      refine c_seq (fun K10 hK10 => ?_)
      cases hhv : st.hv
      · skip
        rw [hhv] at V
        have hst0 := hPI.no hhv
        have hcal := atom127 ho V htf hst0.ht hk1 hk2
        rw [← hts] at hcal
        refine c_reg ?_ -- region 6 form.go:45
        refine wl (ro_move rfl) ?_
        refine wl (ro_nilCheck rfl) ?_
        refine wl (ro_fieldAddr (k := 10) rfl fo_83_10) ?_
        refine wl (ro_loadB rfl sc_4 (hB) ((by rw [hhv]; rfl))) ?_
        refine wl_nil (x_then (hK10 _ _ ?_))
        clear hK10 K10
        refine wc_condF rfl ?_
        refine c_reg ?_ -- region 8 form.go:48
        refine wl (ro_move rfl) ?_
        refine wl_call rfl en_127 (hcal) ?_
        rintro _ u6 ⟨rfl, V6, G6⟩
        replace hF := hF.transG G6 (by intro k hk h; simp only [one, none', fset, ft2] at h ⊢ <;> omega)
        replace hN := G6.blkF hN (by intro h; simp only [one, none', fset, ft2, ho.all, or_self, false_or, or_false] at h <;> omega)
        replace hU := G6.blkF hU (by intro h; simp only [one, none', fset, ft2, ho.all, or_self, false_or, or_false] at h <;> omega)
        replace hM := G6.blkF hM (by intro h; simp only [one, none', fset, ft2, ho.all, or_self, false_or, or_false] at h <;> omega)
        have hnx := PRS.next hRz hPI hto hts (by unfold stepM; rw [if_neg (by rw [hhv]; decide)]; exact V6.toRd)
        refine wl_nil (x_blk (x_then ?_))
        obtain ⟨m', hm', hP⟩ := hnx
        exact ⟨m', hm', hP, hN, hU, hM, hF, kp _ ⟨rfl, rfl, trivial⟩⟩
      · skip
        rw [hhv] at V
        have hcal := after126 ho V ⟨hPI.l24, hPI.ye hhv⟩ hk1 hk2
        rw [← hts] at hcal
        refine c_reg ?_ -- region 6 form.go:45
        refine wl (ro_move rfl) ?_
        refine wl (ro_nilCheck rfl) ?_
        refine wl (ro_fieldAddr (k := 10) rfl fo_83_10) ?_
        refine wl (ro_loadB rfl sc_4 (hB) ((by rw [hhv]; rfl))) ?_
        refine wl_nil (x_then (hK10 _ _ ?_))
        clear hK10 K10
        refine wc_condT rfl ?_
        refine c_reg ?_ -- region 7 form.go:46
        refine wl (ro_move rfl) ?_
        refine wl_call rfl en_126 (hcal) ?_
        rintro _ u6 ⟨rfl, V6, G6⟩
        replace hF := hF.transG G6 (by intro k hk h; simp only [one, none', fset, ft2] at h ⊢ <;> omega)
        replace hN := G6.blkF hN (by intro h; simp only [one, none', fset, ft2, ho.all, or_self, false_or, or_false] at h <;> omega)
        replace hU := G6.blkF hU (by intro h; simp only [one, none', fset, ft2, ho.all, or_self, false_or, or_false] at h <;> omega)
        replace hM := G6.blkF hM (by intro h; simp only [one, none', fset, ft2, ho.all, or_self, false_or, or_false] at h <;> omega)
        have hnx := PRS.next hRz hPI hto hts (by unfold stepM; rw [if_pos hhv]; exact V6)
        refine wl_nil (x_blk (x_then ?_))
        obtain ⟨m', hm', hP⟩ := hnx
        exact ⟨m', hm', hP, hN, hU, hM, hF, kp _ ⟨rfl, rfl, trivial⟩⟩
    · skip
      have Vc := V
      obtain ⟨pos, er, bd, wi, ft, fa, fv, fo, ⟨hB, hK, hA, hV, hO, htv, hav, hvv, hmv, hkT, hlT, hla⟩, hbad⟩ := Vc
      have her : er ≠ 0 := by simpa using hbad
      refine c_reg ?_ -- region 5 form.go:44
      refine wl (ro_move rfl) ?_
      refine wl (ro_nilCheck rfl) ?_
      refine wl (ro_fieldAddr (k := 12) rfl fo_83_12) ?_
      refine wl (ro_loadB rfl sc_26 (hB) (rfl)) ?_
      refine wl (ro_cmp (r := false) rfl rfl (congrArg some (by simpa using her))) ?_
      refine wl (ro_move rfl) ?_
      refine wlg_no rfl ?_
      refine wlg_no rfl ?_
      refine wlg_no rfl ?_
      refine wlg_no rfl ?_
      refine wlg_no rfl ?_
      refine wl (ro_pick rfl rfl rfl) ?_
      refine wl_nil (x_then (hK9 _ _ ?_))
      clear hK9 K9
      refine wc_condF rfl ?_
      refine c_exit (x_thenX (x_thenX (x_blkX (x_then (hK7 _ _ ?_)))))
      clear hK8 K8 hK7 K7
      refine forget [(0, _), (4, _)] ⟨rfl, rfl, trivial⟩ (fun e => ?_)
      refine c_seq (fun K11 hK11 => ?_)
      refine c_piL 10 [(0, false), (1, false), (2, false), (3, false), (4, false), (5, false), (6, false), (7, false), (8, false), (9, true)] (fun w' => Blk w'.heap B.f (fml B (T.length + 1) k pos ar.length ov.length os.length hv dn er bd wi) 83) mixed (by kernel_rfl) rfl (by kernel_rfl) (po_then (po_bp)) (hB) ?_ -- region 9 form.go:51
      refine ql_ro rfl (fun w hS => ro_move rfl) ?_
      refine ql_ro rfl (fun w hS => ro_nilCheck rfl) ?_
      refine ql_ro rfl (fun w hS => ro_fieldAddr (k := 12) rfl fo_83_12) ?_
      refine ql_ro rfl (fun w hS => ro_loadB rfl sc_26 (hS) (rfl)) ?_
      refine ql_ro rfl (fun w hS => ro_move rfl) ?_
      refine ql_ro rfl (fun w hS => ro_nilCheck rfl) ?_
      refine ql_ro rfl (fun w hS => ro_fieldAddr (k := 13) rfl fo_83_13) ?_
      refine ql_ro rfl (fun w hS => ro_loadB rfl sc_3 (hS) (rfl)) ?_
      refine ql_ro rfl (fun w hS => ro_build rfl bld_113_1_2_3) ?_
      refine ql_new rfl ze_113 (fun w1 F ↦ F.blkN hB) ?_
      intro db w9 hbdb hD F9
      have hbsdb := Nat.le_trans hF.size hbdb
      have hneB.ndb : B.n < db := Nat.lt_of_lt_of_le hN.lt hbdb
      have hneB.udb : B.u < db := Nat.lt_of_lt_of_le hU.lt hbdb
      have hnembdb : mb < db := Nat.lt_of_lt_of_le hM.lt hbdb
      have hneB.fdb : B.f < db := Nat.lt_of_lt_of_le hB.lt hbdb
      have hneB.tdb : B.t < db := Nat.lt_of_lt_of_le hK.lt hbdb
      have hneB.adb : B.a < db := Nat.lt_of_lt_of_le hA.lt hbdb
      have hneB.vdb : B.v < db := Nat.lt_of_lt_of_le hV.lt hbdb
      have hneB.odb : B.o < db := Nat.lt_of_lt_of_le hO.lt hbdb
      replace hF := hF.thenDrew.thenN F9
      replace hN := F9.blkN hN
      replace hU := F9.blkN hU
      replace hM := F9.blkN hM
      replace hB := F9.blkN hB
      replace hK := F9.blkN hK
      replace hA := F9.blkN hA
      replace hV := F9.blkN hV
      replace hO := F9.blkN hO
      refine ql_puta rfl rfl rfl (by simp [Value.oneCell', i64c, u64c, u8c, ptr]) sz_113 (rfl) hD ((by simp)) (rfl) (fun w10 hD F10 => ?_)
      replace hF := hF.thenDrew.thenO F10 (by first | exact .inr (by omega) | exact .inl rfl | exact .inl (by assumption))
      replace hN := F10.blkO hN (by first | (simp only [ne_eq, ho.all, not_false_eq_true]; done) | omega)
      replace hU := F10.blkO hU (by first | (simp only [ne_eq, ho.all, not_false_eq_true]; done) | omega)
      replace hM := F10.blkO hM (by first | (simp only [ne_eq, ho.all, not_false_eq_true]; done) | omega)
      replace hB := F10.blkO hB (by first | (simp only [ne_eq, ho.all, not_false_eq_true]; done) | omega)
      replace hK := F10.blkO hK (by first | (simp only [ne_eq, ho.all, not_false_eq_true]; done) | omega)
      replace hA := F10.blkO hA (by first | (simp only [ne_eq, ho.all, not_false_eq_true]; done) | omega)
      replace hV := F10.blkO hV (by first | (simp only [ne_eq, ho.all, not_false_eq_true]; done) | omega)
      replace hO := F10.blkO hO (by first | (simp only [ne_eq, ho.all, not_false_eq_true]; done) | omega)
      refine x_then (hK11 _ _ ?_)
      clear hK11 K11
      refine c_seq (fun K12 hK12 => ?_)
      refine c_seq (fun K13 hK13 => ?_)
      refine c_reg ?_ -- region 10 form.go:52
      refine wl (ro_move rfl) ?_
      refine wl (ro_nilCheck rfl) ?_
      refine wl (ro_fieldAddr (k := 12) rfl fo_83_12) ?_
      refine wl (ro_loadB rfl sc_26 (hB) (rfl)) ?_
      refine wl (ro_cmp (r := false) rfl rfl (congrArg some (by simpa using her))) ?_
      refine wl_nil (x_then (hK13 _ _ ?_))
      clear hK13 K13
      refine wc_condF rfl ?_
      refine c_skip (x_then (hK12 _ _ ?_))
      clear hK12 K12
      refine forget [(0, _), (4, _), (5, _)] ⟨rfl, rfl, rfl, trivial⟩ (fun e => ?_)
      refine c_seq (fun K14 hK14 => ?_)
      refine c_reg ?_ -- region 12 form.go:55
      refine wl (ro_move rfl) ?_
      refine wl (ro_move rfl) ?_
      refine wl (ro_move rfl) ?_
      refine wl (ro_move rfl) ?_
      refine wl (ro_nilCheck rfl) ?_
      refine wl (ro_fieldAddr (k := 1) rfl fo_83_1) ?_
      refine wl_put rfl rfl rfl sz_3 hB ((by simp)) ((show _ = fml B 0 k pos ar.length ov.length os.length hv dn er bd wi from rfl)) (fun w11 hB F11 => ?_)
      replace hF := hF.thenDrew.thenO F11 (by first | exact .inr (by omega) | exact .inl rfl | exact .inl (by assumption))
      replace hN := F11.blkO hN (by first | (simp only [ne_eq, ho.all, not_false_eq_true]; done) | omega)
      replace hU := F11.blkO hU (by first | (simp only [ne_eq, ho.all, not_false_eq_true]; done) | omega)
      replace hM := F11.blkO hM (by first | (simp only [ne_eq, ho.all, not_false_eq_true]; done) | omega)
      replace hK := F11.blkO hK (by first | (simp only [ne_eq, ho.all, not_false_eq_true]; done) | omega)
      replace hA := F11.blkO hA (by first | (simp only [ne_eq, ho.all, not_false_eq_true]; done) | omega)
      replace hV := F11.blkO hV (by first | (simp only [ne_eq, ho.all, not_false_eq_true]; done) | omega)
      replace hO := F11.blkO hO (by first | (simp only [ne_eq, ho.all, not_false_eq_true]; done) | omega)
      replace hD := F11.blkO hD (by first | (simp only [ne_eq, ho.all, not_false_eq_true]; done) | omega)
      refine wl (ro_nilCheck rfl) ?_
      refine wl (ro_fieldAddr (k := 5) rfl fo_83_5) ?_
      refine wl_put rfl rfl rfl sz_3 hB ((by simp)) ((show _ = fml B 0 k pos 0 ov.length os.length hv dn er bd wi from rfl)) (fun w12 hB F12 => ?_)
      replace hF := hF.thenDrew.thenO F12 (by first | exact .inr (by omega) | exact .inl rfl | exact .inl (by assumption))
      replace hN := F12.blkO hN (by first | (simp only [ne_eq, ho.all, not_false_eq_true]; done) | omega)
      replace hU := F12.blkO hU (by first | (simp only [ne_eq, ho.all, not_false_eq_true]; done) | omega)
      replace hM := F12.blkO hM (by first | (simp only [ne_eq, ho.all, not_false_eq_true]; done) | omega)
      replace hK := F12.blkO hK (by first | (simp only [ne_eq, ho.all, not_false_eq_true]; done) | omega)
      replace hA := F12.blkO hA (by first | (simp only [ne_eq, ho.all, not_false_eq_true]; done) | omega)
      replace hV := F12.blkO hV (by first | (simp only [ne_eq, ho.all, not_false_eq_true]; done) | omega)
      replace hO := F12.blkO hO (by first | (simp only [ne_eq, ho.all, not_false_eq_true]; done) | omega)
      replace hD := F12.blkO hD (by first | (simp only [ne_eq, ho.all, not_false_eq_true]; done) | omega)
      refine wl (ro_nilCheck rfl) ?_
      refine wl (ro_fieldAddr (k := 7) rfl fo_83_7) ?_
      refine wl_put rfl rfl rfl sz_3 hB ((by simp)) ((show _ = fml B 0 k pos 0 0 os.length hv dn er bd wi from rfl)) (fun w13 hB F13 => ?_)
      replace hF := hF.thenDrew.thenO F13 (by first | exact .inr (by omega) | exact .inl rfl | exact .inl (by assumption))
      replace hN := F13.blkO hN (by first | (simp only [ne_eq, ho.all, not_false_eq_true]; done) | omega)
      replace hU := F13.blkO hU (by first | (simp only [ne_eq, ho.all, not_false_eq_true]; done) | omega)
      replace hM := F13.blkO hM (by first | (simp only [ne_eq, ho.all, not_false_eq_true]; done) | omega)
      replace hK := F13.blkO hK (by first | (simp only [ne_eq, ho.all, not_false_eq_true]; done) | omega)
      replace hA := F13.blkO hA (by first | (simp only [ne_eq, ho.all, not_false_eq_true]; done) | omega)
      replace hV := F13.blkO hV (by first | (simp only [ne_eq, ho.all, not_false_eq_true]; done) | omega)
      replace hO := F13.blkO hO (by first | (simp only [ne_eq, ho.all, not_false_eq_true]; done) | omega)
      replace hD := F13.blkO hD (by first | (simp only [ne_eq, ho.all, not_false_eq_true]; done) | omega)
      refine wl (ro_nilCheck rfl) ?_
      refine wl (ro_fieldAddr (k := 9) rfl fo_83_9) ?_
      refine wl_put rfl rfl rfl sz_3 hB ((by simp)) ((show _ = fml B 0 k pos 0 0 0 hv dn er bd wi from rfl)) (fun w14 hB F14 => ?_)
      replace hF := hF.thenDrew.thenO F14 (by first | exact .inr (by omega) | exact .inl rfl | exact .inl (by assumption))
      replace hN := F14.blkO hN (by first | (simp only [ne_eq, ho.all, not_false_eq_true]; done) | omega)
      replace hU := F14.blkO hU (by first | (simp only [ne_eq, ho.all, not_false_eq_true]; done) | omega)
      replace hM := F14.blkO hM (by first | (simp only [ne_eq, ho.all, not_false_eq_true]; done) | omega)
      replace hK := F14.blkO hK (by first | (simp only [ne_eq, ho.all, not_false_eq_true]; done) | omega)
      replace hA := F14.blkO hA (by first | (simp only [ne_eq, ho.all, not_false_eq_true]; done) | omega)
      replace hV := F14.blkO hV (by first | (simp only [ne_eq, ho.all, not_false_eq_true]; done) | omega)
      replace hO := F14.blkO hO (by first | (simp only [ne_eq, ho.all, not_false_eq_true]; done) | omega)
      replace hD := F14.blkO hD (by first | (simp only [ne_eq, ho.all, not_false_eq_true]; done) | omega)
      refine wl_nil (x_then (hK14 _ _ ?_))
      clear hK14 K14
      refine forget [(4, _), (5, _)] ⟨rfl, rfl, trivial⟩ (fun e => ?_)
      refine c_seq (fun K15 hK15 => ?_)
      refine c_reg ?_ -- region 13 form.go:56
      refine wl (ro_loadAggB rfl ag_113 (hD) (rfl) (rfl)) ?_
      refine wl_puta rfl rfl (by simp [Value.oneCell', i64c, u64c, u8c, ptr]) sz_113 (rfl) hM ((by simp)) (rfl) (fun w15 hM F15 => ?_)
      replace hF := hF.thenDrew.thenO F15 (by first | exact .inr (by omega) | exact .inl rfl | exact .inl (by assumption))
      replace hN := F15.blkO hN (by first | (simp only [ne_eq, ho.all, not_false_eq_true]; done) | omega)
      replace hU := F15.blkO hU (by first | (simp only [ne_eq, ho.all, not_false_eq_true]; done) | omega)
      replace hB := F15.blkO hB (by first | (simp only [ne_eq, ho.all, not_false_eq_true]; done) | omega)
      replace hK := F15.blkO hK (by first | (simp only [ne_eq, ho.all, not_false_eq_true]; done) | omega)
      replace hA := F15.blkO hA (by first | (simp only [ne_eq, ho.all, not_false_eq_true]; done) | omega)
      replace hV := F15.blkO hV (by first | (simp only [ne_eq, ho.all, not_false_eq_true]; done) | omega)
      replace hO := F15.blkO hO (by first | (simp only [ne_eq, ho.all, not_false_eq_true]; done) | omega)
      replace hD := F15.blkO hD (by first | (simp only [ne_eq, ho.all, not_false_eq_true]; done) | omega)
      refine wl_nil (x_then (hK15 _ _ ?_))
      clear hK15 K15
      refine c_ret ?_
      refine bq_ret (res1 Tryz.results97 (rv_c rfl ag_113 (hM) rfl)) ?_
      exact ⟨by rw [hpe, hRz]; exact ⟨er, bd, her, rfl⟩, ⟨_, _, _, _, _, _, _, _, _, _, _, _, _, hB, hK, hA, hV, hO, hN, hU⟩, hF⟩
    · skip
      have Vc := V
      obtain ⟨pos, er, bd, wi, ft, fa, fv, fo, ⟨hB, hK, hA, hV, hO, htv, hav, hvv, hmv, hkT, hlT, hla⟩, hbad⟩ := Vc
      have her : er = 0 := by simpa using hbad
      refine c_reg ?_ -- region 5 form.go:44
      refine wl (ro_move rfl) ?_
      refine wl (ro_nilCheck rfl) ?_
      refine wl (ro_fieldAddr (k := 12) rfl fo_83_12) ?_
      refine wl (ro_loadB rfl sc_26 (hB) (rfl)) ?_
      refine wl (ro_cmp (r := true) rfl rfl (congrArg some (by simpa using her))) ?_
      refine wl (ro_move rfl) ?_
      refine wlg_yes rfl (ro_move rfl) ?_
      refine wlg_yes rfl (ro_nilCheck rfl) ?_
      refine wlg_yes rfl (ro_fieldAddr (k := 11) rfl fo_83_11) ?_
      refine wlg_yes rfl (ro_loadB rfl sc_4 (hB) (rfl)) ?_
      refine wlg_yes rfl (ro_not rfl) ?_
      refine wl (ro_pick rfl rfl rfl) ?_
      refine wl_nil (x_then (hK9 _ _ ?_))
      clear hK9 K9
      refine wc_condF rfl ?_
      refine c_exit (x_thenX (x_thenX (x_blkX (x_then (hK7 _ _ ?_)))))
      clear hK8 K8 hK7 K7
      refine forget [(0, _), (4, _)] ⟨rfl, rfl, trivial⟩ (fun e => ?_)
      refine c_seq (fun K16 hK16 => ?_)
      obtain ⟨dn, hdn⟩ : ∃ d : Bool, d = true := ⟨_, rfl⟩
      rw [← hdn] at hB
      refine c_piL 10 [(0, false), (1, false), (2, false), (3, false), (4, false), (5, false), (6, false), (7, false), (8, false), (9, true)] (fun w' => Blk w'.heap B.f (fml B (T.length + 1) k pos ar.length ov.length os.length hv dn er bd wi) 83) mixed (by kernel_rfl) rfl (by kernel_rfl) (po_then (po_bp)) (hB) ?_ -- region 9 form.go:51
      refine ql_ro rfl (fun w hS => ro_move rfl) ?_
      refine ql_ro rfl (fun w hS => ro_nilCheck rfl) ?_
      refine ql_ro rfl (fun w hS => ro_fieldAddr (k := 12) rfl fo_83_12) ?_
      refine ql_ro rfl (fun w hS => ro_loadB rfl sc_26 (hS) (rfl)) ?_
      refine ql_ro rfl (fun w hS => ro_move rfl) ?_
      refine ql_ro rfl (fun w hS => ro_nilCheck rfl) ?_
      refine ql_ro rfl (fun w hS => ro_fieldAddr (k := 13) rfl fo_83_13) ?_
      refine ql_ro rfl (fun w hS => ro_loadB rfl sc_3 (hS) (rfl)) ?_
      refine ql_ro rfl (fun w hS => ro_build rfl bld_113_1_2_3) ?_
      refine ql_new rfl ze_113 (fun w1 F ↦ F.blkN hB) ?_
      intro db w16 hbdb hD F16
      have hbsdb := Nat.le_trans hF.size hbdb
      have hneB.ndb : B.n < db := Nat.lt_of_lt_of_le hN.lt hbdb
      have hneB.udb : B.u < db := Nat.lt_of_lt_of_le hU.lt hbdb
      have hnembdb : mb < db := Nat.lt_of_lt_of_le hM.lt hbdb
      have hneB.fdb : B.f < db := Nat.lt_of_lt_of_le hB.lt hbdb
      have hneB.tdb : B.t < db := Nat.lt_of_lt_of_le hK.lt hbdb
      have hneB.adb : B.a < db := Nat.lt_of_lt_of_le hA.lt hbdb
      have hneB.vdb : B.v < db := Nat.lt_of_lt_of_le hV.lt hbdb
      have hneB.odb : B.o < db := Nat.lt_of_lt_of_le hO.lt hbdb
      replace hF := hF.thenDrew.thenN F16
      replace hN := F16.blkN hN
      replace hU := F16.blkN hU
      replace hM := F16.blkN hM
      replace hB := F16.blkN hB
      replace hK := F16.blkN hK
      replace hA := F16.blkN hA
      replace hV := F16.blkN hV
      replace hO := F16.blkN hO
      refine ql_puta rfl rfl rfl (by simp [Value.oneCell', i64c, u64c, u8c, ptr]) sz_113 (rfl) hD ((by simp)) (rfl) (fun w17 hD F17 => ?_)
      replace hF := hF.thenDrew.thenO F17 (by first | exact .inr (by omega) | exact .inl rfl | exact .inl (by assumption))
      replace hN := F17.blkO hN (by first | (simp only [ne_eq, ho.all, not_false_eq_true]; done) | omega)
      replace hU := F17.blkO hU (by first | (simp only [ne_eq, ho.all, not_false_eq_true]; done) | omega)
      replace hM := F17.blkO hM (by first | (simp only [ne_eq, ho.all, not_false_eq_true]; done) | omega)
      replace hB := F17.blkO hB (by first | (simp only [ne_eq, ho.all, not_false_eq_true]; done) | omega)
      replace hK := F17.blkO hK (by first | (simp only [ne_eq, ho.all, not_false_eq_true]; done) | omega)
      replace hA := F17.blkO hA (by first | (simp only [ne_eq, ho.all, not_false_eq_true]; done) | omega)
      replace hV := F17.blkO hV (by first | (simp only [ne_eq, ho.all, not_false_eq_true]; done) | omega)
      replace hO := F17.blkO hO (by first | (simp only [ne_eq, ho.all, not_false_eq_true]; done) | omega)
      refine x_then (hK16 _ _ ?_)
      clear hK16 K16
      refine c_seq (fun K17 hK17 => ?_)
      refine c_seq (fun K18 hK18 => ?_)
      refine c_reg ?_ -- region 10 form.go:52
      refine wl (ro_move rfl) ?_
      refine wl (ro_nilCheck rfl) ?_
      refine wl (ro_fieldAddr (k := 12) rfl fo_83_12) ?_
      refine wl (ro_loadB rfl sc_26 (hB) (rfl)) ?_
      refine wl (ro_cmp (r := true) rfl rfl (congrArg some (by simpa using her))) ?_
      refine wl_nil (x_then (hK18 _ _ ?_))
      clear hK18 K18
      refine wc_condT rfl ?_
      refine c_piL 16 [(0, false), (1, false), (2, false), (3, false), (4, false), (5, false), (6, false), (7, false), (8, false), (10, false), (11, false), (12, false), (13, false), (14, false), (9, true), (15, false)] (fun w' => Blk w'.heap B.f (fml B (T.length + 1) k pos ar.length ov.length os.length hv dn er bd wi) 83 ∧ FB w'.heap B.a 312 fa 143) mixed (by kernel_rfl) rfl (by kernel_rfl) (po_then (po_bp)) (⟨hB, hA⟩) ?_ -- region 11 form.go:53
      refine ql_ro rfl (fun w hS => ro_move rfl) ?_
      refine ql_ro rfl (fun w hS => ro_nilCheck rfl) ?_
      refine ql_ro rfl (fun w hS => ro_fieldAddr (k := 4) rfl fo_83_4) ?_
      refine ql_ro rfl (fun w hS => ro_loadB rfl sc_78 (hS.1) (rfl)) ?_
      refine ql_ro rfl (fun w hS => ro_move rfl) ?_
      refine ql_ro rfl (fun w hS => ro_nilCheck rfl) ?_
      refine ql_ro rfl (fun w hS => ro_fieldAddr (k := 5) rfl fo_83_5) ?_
      refine ql_ro rfl (fun w hS => ro_loadB rfl sc_3 (hS.1) (rfl)) ?_
      refine ql_ro rfl (fun w hS => ro_sliceH (h := ar.length) rfl rfl se_78 rfl (by omega)) ?_
      refine ql_ro rfl (fun w hS => ro_move rfl) ?_
      refine ql_ro rfl (fun w hS => ro_nilCheck rfl) ?_
      refine ql_ro rfl (fun w hS => ro_fieldAddr (k := 5) rfl fo_83_5) ?_
      refine ql_ro rfl (fun w hS => ro_loadB rfl sc_3 (hS.1) (rfl)) ?_
      refine ql_ro rfl (fun w hS => ro_arith (r := (ar.length : Int) - 1) rfl rfl rfl (Go.IntWalk.i64_in _ (by omega))) ?_
      refine ql_call rfl rfl en_103 (CopyNodes103 (cap := 24) hA hav hD'.1 (by omega) (by omega)) ?_
      rintro _ u7 ⟨qb, rfl, hqb, hQ, G7⟩
      have ld : db < qb := Nat.lt_of_lt_of_le hD.lt hqb
      replace hF := hF.transG G7 (by intro k hk h; simp only [one, none', fset, ft2] at h ⊢ <;> omega)
      replace hN := G7.blkF hN (by intro h; simp only [one, none', fset, ft2, ho.all, or_self, false_or, or_false] at h <;> omega)
      replace hU := G7.blkF hU (by intro h; simp only [one, none', fset, ft2, ho.all, or_self, false_or, or_false] at h <;> omega)
      replace hM := G7.blkF hM (by intro h; simp only [one, none', fset, ft2, ho.all, or_self, false_or, or_false] at h <;> omega)
      replace hB := G7.blkF hB (by intro h; simp only [one, none', fset, ft2, ho.all, or_self, false_or, or_false] at h <;> omega)
      replace hK := G7.blkF hK (by intro h; simp only [one, none', fset, ft2, ho.all, or_self, false_or, or_false] at h <;> omega)
      replace hA := G7.blkF hA (by intro h; simp only [one, none', fset, ft2, ho.all, or_self, false_or, or_false] at h <;> omega)
      replace hV := G7.blkF hV (by intro h; simp only [one, none', fset, ft2, ho.all, or_self, false_or, or_false] at h <;> omega)
      replace hO := G7.blkF hO (by intro h; simp only [one, none', fset, ft2, ho.all, or_self, false_or, or_false] at h <;> omega)
      replace hD := G7.blkF hD (by intro h; simp only [one, none', fset, ft2, ho.all, or_self, false_or, or_false] at h <;> omega)
      refine ⟨⟨hB, hA⟩, ?_⟩
      refine ql_ro rfl (fun w hS => ro_build rfl bld_113_0_1) ?_
      refine ql_puta rfl rfl rfl (by simp [Value.oneCell', i64c, u64c, u8c, ptr]) sz_113 (rfl) hD ((by simp)) (rfl) (fun w18 hD F18 => ?_)
      replace hF := hF.thenDrew.thenO F18 (by first | exact .inr (by omega) | exact .inl rfl | exact .inl (by assumption))
      replace hN := F18.blkO hN (by first | (simp only [ne_eq, ho.all, not_false_eq_true]; done) | omega)
      replace hU := F18.blkO hU (by first | (simp only [ne_eq, ho.all, not_false_eq_true]; done) | omega)
      replace hM := F18.blkO hM (by first | (simp only [ne_eq, ho.all, not_false_eq_true]; done) | omega)
      replace hB := F18.blkO hB (by first | (simp only [ne_eq, ho.all, not_false_eq_true]; done) | omega)
      replace hK := F18.blkO hK (by first | (simp only [ne_eq, ho.all, not_false_eq_true]; done) | omega)
      replace hA := F18.blkO hA (by first | (simp only [ne_eq, ho.all, not_false_eq_true]; done) | omega)
      replace hV := F18.blkO hV (by first | (simp only [ne_eq, ho.all, not_false_eq_true]; done) | omega)
      replace hO := F18.blkO hO (by first | (simp only [ne_eq, ho.all, not_false_eq_true]; done) | omega)
      replace hQ := F18.blkO hQ (by first | (simp only [ne_eq, ho.all, not_false_eq_true]; done) | omega)
      refine x_then (hK17 _ _ ?_)
      clear hK17 K17
      refine forget [(0, _), (4, _), (5, _)] ⟨rfl, rfl, rfl, trivial⟩ (fun e => ?_)
      refine c_seq (fun K19 hK19 => ?_)
      refine c_reg ?_ -- region 12 form.go:55
      refine wl (ro_move rfl) ?_
      refine wl (ro_move rfl) ?_
      refine wl (ro_move rfl) ?_
      refine wl (ro_move rfl) ?_
      refine wl (ro_nilCheck rfl) ?_
      refine wl (ro_fieldAddr (k := 1) rfl fo_83_1) ?_
      refine wl_put rfl rfl rfl sz_3 hB ((by simp)) ((show _ = fml B 0 k pos ar.length ov.length os.length hv dn er bd wi from rfl)) (fun w19 hB F19 => ?_)
      replace hF := hF.thenDrew.thenO F19 (by first | exact .inr (by omega) | exact .inl rfl | exact .inl (by assumption))
      replace hN := F19.blkO hN (by first | (simp only [ne_eq, ho.all, not_false_eq_true]; done) | omega)
      replace hU := F19.blkO hU (by first | (simp only [ne_eq, ho.all, not_false_eq_true]; done) | omega)
      replace hM := F19.blkO hM (by first | (simp only [ne_eq, ho.all, not_false_eq_true]; done) | omega)
      replace hK := F19.blkO hK (by first | (simp only [ne_eq, ho.all, not_false_eq_true]; done) | omega)
      replace hA := F19.blkO hA (by first | (simp only [ne_eq, ho.all, not_false_eq_true]; done) | omega)
      replace hV := F19.blkO hV (by first | (simp only [ne_eq, ho.all, not_false_eq_true]; done) | omega)
      replace hO := F19.blkO hO (by first | (simp only [ne_eq, ho.all, not_false_eq_true]; done) | omega)
      replace hD := F19.blkO hD (by first | (simp only [ne_eq, ho.all, not_false_eq_true]; done) | omega)
      replace hQ := F19.blkO hQ (by first | (simp only [ne_eq, ho.all, not_false_eq_true]; done) | omega)
      refine wl (ro_nilCheck rfl) ?_
      refine wl (ro_fieldAddr (k := 5) rfl fo_83_5) ?_
      refine wl_put rfl rfl rfl sz_3 hB ((by simp)) ((show _ = fml B 0 k pos 0 ov.length os.length hv dn er bd wi from rfl)) (fun w20 hB F20 => ?_)
      replace hF := hF.thenDrew.thenO F20 (by first | exact .inr (by omega) | exact .inl rfl | exact .inl (by assumption))
      replace hN := F20.blkO hN (by first | (simp only [ne_eq, ho.all, not_false_eq_true]; done) | omega)
      replace hU := F20.blkO hU (by first | (simp only [ne_eq, ho.all, not_false_eq_true]; done) | omega)
      replace hM := F20.blkO hM (by first | (simp only [ne_eq, ho.all, not_false_eq_true]; done) | omega)
      replace hK := F20.blkO hK (by first | (simp only [ne_eq, ho.all, not_false_eq_true]; done) | omega)
      replace hA := F20.blkO hA (by first | (simp only [ne_eq, ho.all, not_false_eq_true]; done) | omega)
      replace hV := F20.blkO hV (by first | (simp only [ne_eq, ho.all, not_false_eq_true]; done) | omega)
      replace hO := F20.blkO hO (by first | (simp only [ne_eq, ho.all, not_false_eq_true]; done) | omega)
      replace hD := F20.blkO hD (by first | (simp only [ne_eq, ho.all, not_false_eq_true]; done) | omega)
      replace hQ := F20.blkO hQ (by first | (simp only [ne_eq, ho.all, not_false_eq_true]; done) | omega)
      refine wl (ro_nilCheck rfl) ?_
      refine wl (ro_fieldAddr (k := 7) rfl fo_83_7) ?_
      refine wl_put rfl rfl rfl sz_3 hB ((by simp)) ((show _ = fml B 0 k pos 0 0 os.length hv dn er bd wi from rfl)) (fun w21 hB F21 => ?_)
      replace hF := hF.thenDrew.thenO F21 (by first | exact .inr (by omega) | exact .inl rfl | exact .inl (by assumption))
      replace hN := F21.blkO hN (by first | (simp only [ne_eq, ho.all, not_false_eq_true]; done) | omega)
      replace hU := F21.blkO hU (by first | (simp only [ne_eq, ho.all, not_false_eq_true]; done) | omega)
      replace hM := F21.blkO hM (by first | (simp only [ne_eq, ho.all, not_false_eq_true]; done) | omega)
      replace hK := F21.blkO hK (by first | (simp only [ne_eq, ho.all, not_false_eq_true]; done) | omega)
      replace hA := F21.blkO hA (by first | (simp only [ne_eq, ho.all, not_false_eq_true]; done) | omega)
      replace hV := F21.blkO hV (by first | (simp only [ne_eq, ho.all, not_false_eq_true]; done) | omega)
      replace hO := F21.blkO hO (by first | (simp only [ne_eq, ho.all, not_false_eq_true]; done) | omega)
      replace hD := F21.blkO hD (by first | (simp only [ne_eq, ho.all, not_false_eq_true]; done) | omega)
      replace hQ := F21.blkO hQ (by first | (simp only [ne_eq, ho.all, not_false_eq_true]; done) | omega)
      refine wl (ro_nilCheck rfl) ?_
      refine wl (ro_fieldAddr (k := 9) rfl fo_83_9) ?_
      refine wl_put rfl rfl rfl sz_3 hB ((by simp)) ((show _ = fml B 0 k pos 0 0 0 hv dn er bd wi from rfl)) (fun w22 hB F22 => ?_)
      replace hF := hF.thenDrew.thenO F22 (by first | exact .inr (by omega) | exact .inl rfl | exact .inl (by assumption))
      replace hN := F22.blkO hN (by first | (simp only [ne_eq, ho.all, not_false_eq_true]; done) | omega)
      replace hU := F22.blkO hU (by first | (simp only [ne_eq, ho.all, not_false_eq_true]; done) | omega)
      replace hM := F22.blkO hM (by first | (simp only [ne_eq, ho.all, not_false_eq_true]; done) | omega)
      replace hK := F22.blkO hK (by first | (simp only [ne_eq, ho.all, not_false_eq_true]; done) | omega)
      replace hA := F22.blkO hA (by first | (simp only [ne_eq, ho.all, not_false_eq_true]; done) | omega)
      replace hV := F22.blkO hV (by first | (simp only [ne_eq, ho.all, not_false_eq_true]; done) | omega)
      replace hO := F22.blkO hO (by first | (simp only [ne_eq, ho.all, not_false_eq_true]; done) | omega)
      replace hD := F22.blkO hD (by first | (simp only [ne_eq, ho.all, not_false_eq_true]; done) | omega)
      replace hQ := F22.blkO hQ (by first | (simp only [ne_eq, ho.all, not_false_eq_true]; done) | omega)
      refine wl_nil (x_then (hK19 _ _ ?_))
      clear hK19 K19
      refine forget [(4, _), (5, _)] ⟨rfl, rfl, trivial⟩ (fun e => ?_)
      refine c_seq (fun K20 hK20 => ?_)
      refine c_reg ?_ -- region 13 form.go:56
      refine wl (ro_loadAggB rfl ag_113 (hD) (rfl) (rfl)) ?_
      refine wl_puta rfl rfl (by simp [Value.oneCell', i64c, u64c, u8c, ptr]) sz_113 (rfl) hM ((by simp)) (rfl) (fun w23 hM F23 => ?_)
      replace hF := hF.thenDrew.thenO F23 (by first | exact .inr (by omega) | exact .inl rfl | exact .inl (by assumption))
      replace hN := F23.blkO hN (by first | (simp only [ne_eq, ho.all, not_false_eq_true]; done) | omega)
      replace hU := F23.blkO hU (by first | (simp only [ne_eq, ho.all, not_false_eq_true]; done) | omega)
      replace hB := F23.blkO hB (by first | (simp only [ne_eq, ho.all, not_false_eq_true]; done) | omega)
      replace hK := F23.blkO hK (by first | (simp only [ne_eq, ho.all, not_false_eq_true]; done) | omega)
      replace hA := F23.blkO hA (by first | (simp only [ne_eq, ho.all, not_false_eq_true]; done) | omega)
      replace hV := F23.blkO hV (by first | (simp only [ne_eq, ho.all, not_false_eq_true]; done) | omega)
      replace hO := F23.blkO hO (by first | (simp only [ne_eq, ho.all, not_false_eq_true]; done) | omega)
      replace hD := F23.blkO hD (by first | (simp only [ne_eq, ho.all, not_false_eq_true]; done) | omega)
      replace hQ := F23.blkO hQ (by first | (simp only [ne_eq, ho.all, not_false_eq_true]; done) | omega)
      refine wl_nil (x_then (hK20 _ _ ?_))
      clear hK20 K20
      refine c_ret ?_
      refine bq_ret (res1 Tryz.results97 (rv_c rfl ag_113 (hM) rfl)) ?_
      exact ⟨by rw [hpe, hRz]; exact ⟨qb, rfl, by omega, hQ⟩, ⟨_, _, _, _, _, _, _, _, _, _, _, _, _, hB, hK, hA, hV, hO, hN, hU⟩, hF⟩

end Go.Proofs.Qxb6500570aGreat
