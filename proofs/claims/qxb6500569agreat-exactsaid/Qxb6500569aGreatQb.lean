import Derived.Test.Qxb6500569aGreatQa
/- The model's program: Show, Add, Clear. -/
namespace Go.Proofs.Qxb6500569aGreat
set_option linter.unusedVariables false
set_option linter.unusedSimpArgs false

/-- 'P', then a blank and the text of every clause. -/
def showP (cls : List Cl2) : List UInt8 := 80 :: cls.flatMap (fun c => 32 :: c.1)

theorem showP_len {cls : List Cl2} (ok : POK cls) : (showP cls).length ≤ 400 := by
  have key : ∀ (l : List Cl2), (∀ c ∈ l, c.1.length ≤ 40) → (l.flatMap (fun c => 32 :: c.1)).length ≤ 41 * l.length := by
    intro l
    induction l with
    | nil => intro _; simp
    | cons c l ih =>
      intro h
      have h1 := h c (by simp)
      have h2 := ih (fun x hx => h x (by simp [hx]))
      simp only [List.flatMap_cons, List.length_append, List.length_cons]
      omega
  have := key cls ok.tl
  have := ok.n8
  simp only [showP, List.length_cons]
  omega

theorem Show40 {w : World} {mb : Nat} {VT VC : Value} {cls : List Cl2} (M : MP w.heap mb VT VC cls) (ok : POK cls) :
    Ret Tryz.prog 40 [ptr mb] w (fun r w' => r = S (showP cls) ∧ w' = w) := by
  have hB := M.blk
  have h8 := ok.n8
  have hsl := showP_len ok
  obtain ⟨a0, cap0, rfl⟩ := M.txt.form
  refine ret_of Tryz.func40 rfl Tryz.ntmps40 rfl ?_
  refine c_seq (fun K1 hK1 => ?_)
  refine c_reg ?_ -- region 0 progm.go:186
  refine wl (ro_assign rfl) ?_
  refine wl_nil (x_then (hK1 _ _ ?_))
  clear hK1 K1
  refine forget [(0, _)] ⟨rfl, trivial⟩ (fun e => ?_)
  refine c_seq (fun K2 hK2 => ?_)
  refine c_reg ?_ -- region 1 progm.go:187
  refine wl (ro_assign rfl) ?_
  refine wl_nil (x_then (hK2 _ _ ?_))
  clear hK2 K2
  refine c_seq (fun K3 hK3 => ?_)
  refine c_seq (fun K4 hK4 => ?_)
  refine c_reg ?_ -- region 2 progm.go:188
  refine wl (ro_assign rfl) ?_
  refine wl_nil (x_then (hK4 _ _ ?_))
  clear hK4 K4
  refine c_block ?_
  -- loop@r3: live slots [0, 3, 4]
  refine c_loopG (fun m a' w' => ∃ i out, m = cls.length - i ∧ i ≤ cls.length ∧ out ++ (cls.drop i).flatMap (fun c => 32 :: c.1) = showP cls ∧ w' = w ∧ ∃ e, a' = Fr 25 (upds e [(0, ptr mb), (3, S out), (4, i64c i)]) []) cls.length ⟨0, [80], rfl, by omega, rfl, rfl, kp _ ⟨rfl, rfl, rfl, trivial⟩⟩ ?_
  rintro m a' w ⟨i, out, rfl, hi, hinv, rfl, e, rfl⟩
  have hol : out.length ≤ 400 := by have := congrArg List.length hinv; simp at this; omega
  refine c_seq (fun K5 hK5 => ?_)
  refine c_seq (fun K6 hK6 => ?_)
  refine c_reg ?_ -- region 3 progm.go:188
  refine wl (ro_move rfl) ?_
  refine wl (ro_move rfl) ?_
  refine wl (ro_nilCheck rfl) ?_
  refine wl (ro_fieldAddr (k := 0) rfl fo_84_0) ?_
  refine wl (ro_loadB rfl sc_22 (by assumption) rfl) ?_
  refine wl (ro_lenL rfl se_22) ?_
  refine wl (ro_cmp rfl rfl rfl) ?_
  refine wl_nil (x_then (hK6 _ _ ?_))
  clear hK6 K6
  refine wc_cond rfl (fun hc11 => ?_) (fun hc11 => ?_)
  · try simp only [decide_eq_true_eq, decide_eq_false_iff_not, Bool.not_eq_true', Bool.not_eq_false', Bool.not_eq_eq_eq_not, Bool.not_true, Bool.not_false, beq_iff_eq, bne_iff_ne, ne_eq, beq_eq_false_iff_ne, bne_eq_false_iff_eq, gt_iff_lt, ge_iff_le, Int.not_lt, Int.not_le] at hc11
    have hil : i < cls.length := by omega
    obtain ⟨c, hc⟩ : ∃ c, cls[i]? = some c := ⟨_, List.getElem?_eq_getElem hil⟩
    have hct := ok.tl c (List.mem_of_getElem? hc)
    obtain ⟨g, cap, l, hV, hBl, hc1, hc2, hl1, hl2⟩ := M.txt.pos (by omega)
    cases hV
    have hcell := own_cell (i := i) hl2 (v := S c.1) (by simp [hc])
    have hdi : cls.drop i = c :: cls.drop (i + 1) := by
      rw [List.drop_eq_getElem_cons hil, (List.getElem?_eq_some_iff.1 hc).2]
    rw [hdi] at hinv
    refine c_skip (x_then (hK5 _ _ ?_))
    clear hK5 K5
    refine forget [(0, _), (3, _), (4, _)] ⟨rfl, rfl, rfl, trivial⟩ (fun e => ?_)
    refine c_seq (fun K7 hK7 => ?_)
    refine c_block ?_
    refine c_reg ?_ -- region 5 progm.go:189
    refine wl (ro_move rfl) ?_
    refine wl (ro_catS rfl rfl (by simp; omega)) ?_
    refine wl (ro_move rfl) ?_
    refine wl (ro_nilCheck rfl) ?_
    refine wl (ro_fieldAddr (k := 0) rfl fo_84_0) ?_
    refine wl (ro_loadB rfl sc_22 (by assumption) rfl) ?_
    refine wl (ro_move rfl) ?_
    refine wl (ro_indexAddr (et := 9) (k := 1) rfl rfl se_22 rfl (hil)) ?_
    refine wl (ro_loadB rfl sc_9 (hBl) ((by rw [Nat.zero_add, Nat.mul_one]; exact hcell))) ?_
    refine wl (ro_catS rfl rfl (by simp; omega)) ?_
    refine wl (ro_assign rfl) ?_
    refine wl_nil (x_blk (x_then (hK7 _ _ ?_)))
    clear hK7 K7
    refine c_reg ?_ -- region 4 progm.go:188
    refine wl (ro_move rfl) ?_
    refine wl (ro_arith rfl rfl rfl (Go.IntWalk.i64_in _ (by omega))) ?_
    refine wl (ro_assign rfl) ?_
    refine wl_nil (x_then ?_)
    exact ⟨cls.length - (i + 1), by omega, i + 1, _, rfl, by omega, by simpa using hinv, rfl, kp _ ⟨rfl, rfl, rfl, trivial⟩⟩
  · try simp only [decide_eq_true_eq, decide_eq_false_iff_not, Bool.not_eq_true', Bool.not_eq_false', Bool.not_eq_eq_eq_not, Bool.not_true, Bool.not_false, beq_iff_eq, bne_iff_ne, ne_eq, beq_eq_false_iff_ne, bne_eq_false_iff_eq, gt_iff_lt, ge_iff_le, Int.not_lt, Int.not_le] at hc11
    have hie : i = cls.length := by omega
    refine c_exit (x_thenX (x_thenX (x_blkX (x_then (hK3 _ _ ?_)))))
    clear hK5 K5 hK3 K3
    refine forget [(3, _)] ⟨rfl, trivial⟩ (fun e => ?_)
    refine c_seq (fun K8 hK8 => ?_)
    refine c_reg ?_ -- region 6 progm.go:191
    refine wl (ro_move rfl) ?_
    refine wl (ro_assign rfl) ?_
    refine wl_nil (x_then (hK8 _ _ ?_))
    clear hK8 K8
    refine c_ret ?_
    refine bp_ret Tryz.results40 rfl ?_
    refine ⟨?_, rfl⟩
    rw [hie, List.drop_length] at hinv
    simp at hinv
    rw [← hinv]

/-- What Add answers. -/
def addV (cls : List Cl2) (text : List UInt8) : Value :=
  if 40 < text.length then .tuple #[.int .i64 (-1), i64c 1] else match compS text false with
    | none => .tuple #[.int .i64 (-1), i64c 5]
    | some c => if 8 ≤ cls.length then .tuple #[.int .i64 (-1), i64c 6] else .tuple #[i64c cls.length, i64c 0]

def addC (cls : List Cl2) (text : List UInt8) : List Cl2 :=
  if 40 < text.length then cls else match compS text false with
    | none => cls
    | some c => if 8 ≤ cls.length then cls else cls ++ [(text, c)]

theorem pok_add {cls : List Cl2} (ok : POK cls) (text : List UInt8) : POK (addC cls text) := by
  unfold addC
  split
  · exact ok
  · rename_i hl
    split
    · exact ok
    · rename_i c hc
      split
      · exact ok
      · rename_i h8
        refine ⟨by simp; omega, ?_, ?_⟩
        · intro x hx
          rcases List.mem_append.1 hx with h | h
          · exact ok.tl x h
          · rw [List.mem_singleton.1 h]; simp only; omega
        · intro x hx
          rcases List.mem_append.1 hx with h | h
          · exact ok.cs x h
          · rw [List.mem_singleton.1 h]; exact hc

def MAddPost (mb : Nat) (VT VC : Value) (cls : List Cl2) (text : List UInt8) (w : World) (r : Value) (w' : World) : Prop :=
  r = addV cls text ∧ ∃ VT' VC', MP w'.heap mb VT' VC' (addC cls text) ∧ (∀ b, MPFoot mb VT' VC' b → MPFoot mb VT VC b ∨ w.heap.size ≤ b) ∧ Fram (MPFoot mb VT VC) w w'

theorem Add28 {w : World} {mb : Nat} {VT VC : Value} {cls : List Cl2} (M : MP w.heap mb VT VC cls) (ok : POK cls) (text : List UInt8) (hbig : text.length ≤ 4000000000) :
    Ret Tryz.prog 28 [ptr mb, S text] w (MAddPost mb VT VC cls text w) := by
  have h8 := ok.n8
  by_cases hl : 40 < text.length
  · have e1 : addV cls text = .tuple #[.int .i64 (-1), i64c 1] := by unfold addV; rw [if_pos hl]
    have e2 : addC cls text = cls := by unfold addC; rw [if_pos hl]
    refine ret_of Tryz.func28 rfl Tryz.ntmps28 rfl ?_
    refine c_seq (fun K1 hK1 => ?_)
    refine c_reg ?_ -- region 0 progm.go:130
    refine wl (ro_assign rfl) ?_
    refine wl (ro_assign rfl) ?_
    refine wl_nil (x_then (hK1 _ _ ?_))
    clear hK1 K1
    refine c_seq (fun K2 hK2 => ?_)
    refine c_seq (fun K3 hK3 => ?_)
    refine c_reg ?_ -- region 1 progm.go:131
    refine wl (ro_move rfl) ?_
    refine wl (ro_lenS rfl st_9) ?_
    refine wl (ro_cmp (r := true) rfl rfl (by simp; omega)) ?_
    refine wl_nil (x_then (hK3 _ _ ?_))
    clear hK3 K3
    refine wc_condT rfl ?_
    refine c_seq (fun K4 hK4 => ?_)
    refine c_reg ?_ -- region 2 progm.go:132
    refine wl (ro_assign rfl) ?_
    refine wl (ro_assign rfl) ?_
    refine wl_nil (x_then (hK4 _ _ ?_))
    clear hK4 K4
    refine c_ret (x_thenR ?_)
    refine bp_ret Tryz.results28 rfl ?_
    exact ⟨e1.symm, VT, VC, by rw [e2]; exact M, fun b h => .inl h, Fram.refl _ _⟩
  · have hcp := compile53c (w := w) (text := text) (by omega)
    cases ho : compS text false with
    | none =>
      rw [ho] at hcp
      have e1 : addV cls text = .tuple #[.int .i64 (-1), i64c 5] := by unfold addV; rw [if_neg hl, ho]
      have e2 : addC cls text = cls := by unfold addC; rw [if_neg hl, ho]
      refine ret_of Tryz.func28 rfl Tryz.ntmps28 rfl ?_
      refine c_seq (fun K1 hK1 => ?_)
      refine c_reg ?_ -- region 0 progm.go:130
      refine wl (ro_assign rfl) ?_
      refine wl (ro_assign rfl) ?_
      refine wl_nil (x_then (hK1 _ _ ?_))
      clear hK1 K1
      refine c_seq (fun K2 hK2 => ?_)
      refine c_seq (fun K3 hK3 => ?_)
      refine c_reg ?_ -- region 1 progm.go:131
      refine wl (ro_move rfl) ?_
      refine wl (ro_lenS rfl st_9) ?_
      refine wl (ro_cmp (r := false) rfl rfl (by simp; omega)) ?_
      refine wl_nil (x_then (hK3 _ _ ?_))
      clear hK3 K3
      refine wc_condF rfl ?_
      refine c_skip (x_then (hK2 _ _ ?_))
      clear hK2 K2
      refine forget [(0, _), (1, _)] ⟨rfl, rfl, trivial⟩ (fun e => ?_)
      refine c_seq (fun K4 hK4 => ?_)
      refine c_reg ?_ -- region 3 progm.go:134
      refine wl (ro_move rfl) ?_
      refine wl_call rfl en_53 (hcp) ?_
      rintro _ w1 ⟨rfl, F1⟩
      refine wl (ro_move rfl) ?_
      refine wl (ro_extract rfl rfl) ?_
      refine wl (ro_extract rfl rfl) ?_
      refine wl (ro_assign rfl) ?_
      refine wl (ro_assign rfl) ?_
      refine wl_nil (x_then (hK4 _ _ ?_))
      clear hK4 K4
      refine c_seq (fun K5 hK5 => ?_)
      refine c_seq (fun K6 hK6 => ?_)
      refine c_reg ?_ -- region 4 progm.go:135
      refine wl (ro_move rfl) ?_
      refine wl (ro_not rfl) ?_
      refine wl_nil (x_then (hK6 _ _ ?_))
      clear hK6 K6
      refine wc_condT rfl ?_
      refine c_seq (fun K7 hK7 => ?_)
      refine c_reg ?_ -- region 5 progm.go:136
      refine wl (ro_assign rfl) ?_
      refine wl (ro_assign rfl) ?_
      refine wl_nil (x_then (hK7 _ _ ?_))
      clear hK7 K7
      refine c_ret (x_thenR ?_)
      refine bp_ret Tryz.results28 rfl ?_
      exact ⟨e1.symm, VT, VC, by rw [e2]; exact M.fram F1 (fun _ _ h => h), fun b h => .inl h, F1.mono (fun _ _ h => h.elim)⟩
    | some c =>
      rw [ho] at hcp
      obtain ⟨a0, cap0, rfl⟩ := M.txt.form
      obtain ⟨a1, cap1, rfl⟩ := M.cod.form
      by_cases h8' : 8 ≤ cls.length
      · have e1 : addV cls text = .tuple #[.int .i64 (-1), i64c 6] := by unfold addV; rw [if_neg hl, ho]; simp only [h8', if_true]
        have e2 : addC cls text = cls := by unfold addC; rw [if_neg hl, ho]; simp only [h8', if_true]
        refine ret_of Tryz.func28 rfl Tryz.ntmps28 rfl ?_
        refine c_seq (fun K1 hK1 => ?_)
        refine c_reg ?_ -- region 0 progm.go:130
        refine wl (ro_assign rfl) ?_
        refine wl (ro_assign rfl) ?_
        refine wl_nil (x_then (hK1 _ _ ?_))
        clear hK1 K1
        refine c_seq (fun K2 hK2 => ?_)
        refine c_seq (fun K3 hK3 => ?_)
        refine c_reg ?_ -- region 1 progm.go:131
        refine wl (ro_move rfl) ?_
        refine wl (ro_lenS rfl st_9) ?_
        refine wl (ro_cmp (r := false) rfl rfl (by simp; omega)) ?_
        refine wl_nil (x_then (hK3 _ _ ?_))
        clear hK3 K3
        refine wc_condF rfl ?_
        refine c_skip (x_then (hK2 _ _ ?_))
        clear hK2 K2
        refine forget [(0, _), (1, _)] ⟨rfl, rfl, trivial⟩ (fun e => ?_)
        refine c_seq (fun K4 hK4 => ?_)
        refine c_reg ?_ -- region 3 progm.go:134
        refine wl (ro_move rfl) ?_
        refine wl_call rfl en_53 (hcp) ?_
        rintro _ w1 ⟨rfl, F1⟩
        have M1 := M.fram F1 (fun _ _ h => h)
        have hB := M1.blk
        refine wl (ro_move rfl) ?_
        refine wl (ro_extract rfl rfl) ?_
        refine wl (ro_extract rfl rfl) ?_
        refine wl (ro_assign rfl) ?_
        refine wl (ro_assign rfl) ?_
        refine wl_nil (x_then (hK4 _ _ ?_))
        clear hK4 K4
        refine c_seq (fun K5 hK5 => ?_)
        refine c_seq (fun K6 hK6 => ?_)
        refine c_reg ?_ -- region 4 progm.go:135
        refine wl (ro_move rfl) ?_
        refine wl (ro_not rfl) ?_
        refine wl_nil (x_then (hK6 _ _ ?_))
        clear hK6 K6
        refine wc_condF rfl ?_
        refine c_skip (x_then (hK5 _ _ ?_))
        clear hK5 K5
        refine c_seq (fun K7 hK7 => ?_)
        refine c_seq (fun K8 hK8 => ?_)
        refine c_reg ?_ -- region 6 progm.go:138
        refine wl (ro_move rfl) ?_
        refine wl (ro_nilCheck rfl) ?_
        refine wl (ro_fieldAddr (k := 0) rfl fo_84_0) ?_
        refine wl (ro_loadB rfl sc_22 (by assumption) rfl) ?_
        refine wl (ro_lenL rfl se_22) ?_
        refine wl (ro_cmp (r := true) rfl rfl (by simp; omega)) ?_
        refine wl_nil (x_then (hK8 _ _ ?_))
        clear hK8 K8
        refine wc_condT rfl ?_
        refine c_seq (fun K9 hK9 => ?_)
        refine c_reg ?_ -- region 7 progm.go:139
        refine wl (ro_assign rfl) ?_
        refine wl (ro_assign rfl) ?_
        refine wl_nil (x_then (hK9 _ _ ?_))
        clear hK9 K9
        refine c_ret (x_thenR ?_)
        refine bp_ret Tryz.results28 rfl ?_
        exact ⟨e1.symm, _, _, by rw [e2]; exact M1, fun b h => .inl h, F1.mono (fun _ _ h => h.elim)⟩
      · have e1 : addV cls text = .tuple #[i64c cls.length, i64c 0] := by unfold addV; rw [if_neg hl, ho]; simp only [h8', if_false]
        have e2 : addC cls text = cls ++ [(text, c)] := by unfold addC; rw [if_neg hl, ho]; simp only [h8', if_false]
        have hclen : c.length ≤ 43 := by have := (compS_ok ho).2; omega
        refine ret_of Tryz.func28 rfl Tryz.ntmps28 rfl ?_
        refine c_seq (fun K1 hK1 => ?_)
        refine c_reg ?_ -- region 0 progm.go:130
        refine wl (ro_assign rfl) ?_
        refine wl (ro_assign rfl) ?_
        refine wl_nil (x_then (hK1 _ _ ?_))
        clear hK1 K1
        refine c_seq (fun K2 hK2 => ?_)
        refine c_seq (fun K3 hK3 => ?_)
        refine c_reg ?_ -- region 1 progm.go:131
        refine wl (ro_move rfl) ?_
        refine wl (ro_lenS rfl st_9) ?_
        refine wl (ro_cmp (r := false) rfl rfl (by simp; omega)) ?_
        refine wl_nil (x_then (hK3 _ _ ?_))
        clear hK3 K3
        refine wc_condF rfl ?_
        refine c_skip (x_then (hK2 _ _ ?_))
        clear hK2 K2
        refine forget [(0, _), (1, _)] ⟨rfl, rfl, trivial⟩ (fun e => ?_)
        refine c_seq (fun K4 hK4 => ?_)
        refine c_reg ?_ -- region 3 progm.go:134
        refine wl (ro_move rfl) ?_
        refine wl_call rfl en_53 (hcp) ?_
        rintro _ w1 ⟨rfl, F1⟩
        have M1 := M.fram F1 (fun _ _ h => h)
        have hB := M1.blk
        refine wl (ro_move rfl) ?_
        refine wl (ro_extract rfl rfl) ?_
        refine wl (ro_extract rfl rfl) ?_
        refine wl (ro_assign rfl) ?_
        refine wl (ro_assign rfl) ?_
        refine wl_nil (x_then (hK4 _ _ ?_))
        clear hK4 K4
        refine c_seq (fun K5 hK5 => ?_)
        refine c_seq (fun K6 hK6 => ?_)
        refine c_reg ?_ -- region 4 progm.go:135
        refine wl (ro_move rfl) ?_
        refine wl (ro_not rfl) ?_
        refine wl_nil (x_then (hK6 _ _ ?_))
        clear hK6 K6
        refine wc_condF rfl ?_
        refine c_skip (x_then (hK5 _ _ ?_))
        clear hK5 K5
        refine c_seq (fun K7 hK7 => ?_)
        refine c_seq (fun K8 hK8 => ?_)
        refine c_reg ?_ -- region 6 progm.go:138
        refine wl (ro_move rfl) ?_
        refine wl (ro_nilCheck rfl) ?_
        refine wl (ro_fieldAddr (k := 0) rfl fo_84_0) ?_
        refine wl (ro_loadB rfl sc_22 (by assumption) rfl) ?_
        refine wl (ro_lenL rfl se_22) ?_
        refine wl (ro_cmp (r := false) rfl rfl (by simp; omega)) ?_
        refine wl_nil (x_then (hK8 _ _ ?_))
        clear hK8 K8
        refine wc_condF rfl ?_
        refine c_skip (x_then (hK7 _ _ ?_))
        clear hK7 K7
        refine forget [(0, _), (1, _), (6, _)] ⟨rfl, rfl, rfl, trivial⟩ (fun e => ?_)
        refine c_seq (fun K9 hK9 => ?_)
        refine c_reg ?_ -- region 8 progm.go:141
        refine wl (ro_move rfl) ?_
        refine wl (ro_move rfl) ?_
        refine wl (ro_nilCheck rfl) ?_
        refine wl (ro_fieldAddr (k := 0) rfl fo_84_0) ?_
        refine wl (ro_loadB rfl sc_22 (by assumption) rfl) ?_
        refine wl (ro_move rfl) ?_
        refine wle (eo_bs1 rfl rfl se_22 zx_9 rfl rfl rfl) ?_
        have M2 := M1.fram (Fram.alloc none' w1 (.cells [S text].toArray 9)) (fun _ _ h => h)
        have hN := Blk.new w1 [S text] 9
        refine wl_app (news := [S text]) rfl rfl se_22 zx_9 by_9 rfl M2.txt hN rfl rfl (by simp [S, Value.oneCell']) (by omega) (by omega) ?_
        intro V3 w3 hown hgr hloc
        obtain ⟨a3, cap3, rfl⟩ := hown.form
        have FA : Fram (fun b => (Value.slice a0 cls.length cap0).ownBlock = some b) (w1.alloc (.cells [S text].toArray 9)) w3 := Fram.grown hgr (fun k hk => .inl hk)
        have hb3 : Blk w3.heap mb [.slice a0 cls.length cap0, .slice a1 cls.length cap1] 84 := M2.blk.fram FA (fun hk => M2.txt.neblk M2.blk (by decide) _ hk rfl)
        have hc3 := M2.cod.fram FA (fun b hb' h => M2.sep b h hb')
        have hsep3 : ∀ b, (Value.slice a3 (cls.length + 1) cap3).ownBlock = some b → (Value.slice a1 cls.length cap1).ownBlock ≠ some b := by
          intro b hb' hx
          rcases hloc with h | h
          · rw [h] at hb'; exact M2.sep b hb' hx
          · rw [h] at hb'; cases hb'; have := M2.cod.lt hx; simp at this
        have hnew3 : ∀ b, (Value.slice a3 (cls.length + 1) cap3).ownBlock = some b → (Value.slice a0 cls.length cap0).ownBlock = some b ∨ w.heap.size ≤ b := by
          intro b hb'
          rcases hloc with h | h
          · rw [h] at hb'; exact .inl hb'
          · rw [h] at hb'; cases hb'; have := F1.size; exact .inr (by simp; omega)
        refine wl (ro_nilCheck rfl) ?_
        refine wl (ro_fieldAddr (k := 0) rfl fo_84_0) ?_
        refine wls (so_storeB rfl rfl rfl sz_22 (hb3) (by simp)) ?_
        have FS : Fram (fun b => b = mb) w3 (w3.setRow mb [.slice a3 (cls.length + 1) cap3, .slice a1 cls.length cap1].toArray) := Fram.set w3 mb _ (.inl rfl)
        have B4 := hb3.set [.slice a3 (cls.length + 1) cap3, .slice a1 cls.length cap1]
        have O4 := hown.fram FS (fun b hb' he => hown.neblk hb3 (by decide) b hb' he)
        have C4 := hc3.fram FS (fun b hb' he => hc3.neblk hb3 (by decide) b hb' he)
        have F4 : Fram (MPFoot mb (.slice a0 cls.length cap0) (.slice a1 cls.length cap1)) w _ := ((F1.mono (fun _ _ h => h.elim)).thenAlloc (o := .cells [S text].toArray 9)).trans ((FA.mono (fun k hk hx => .inr (.inl hx))).trans (FS.mono (fun k hk hx => .inl hx)))
        refine gen3 (A := fun w4 => Blk w4.heap mb [.slice a3 (cls.length + 1) cap3, .slice a1 cls.length cap1] 84) (B := fun w4 => Own w4.heap (.slice a3 (cls.length + 1) cap3) 9 1 (cls.length + 1) (cls.map (fun c : Cl2 => S c.1) ++ [S text]) ∧ Own w4.heap (.slice a1 cls.length cap1) 9 1 cls.length (cls.map (fun c : Cl2 => S c.2))) (D := fun w4 => Fram (MPFoot mb (.slice a0 cls.length cap0) (.slice a1 cls.length cap1)) w w4) (C := fun w4 => WL _ _ _ _ _ w4) B4 ⟨O4, C4⟩ F4 ?_
        clear B4 O4 C4 F4 FS FA hb3 hc3 hown hgr hloc M2 hN M1 hB
        rintro w4 B4 ⟨O4, C4⟩ F4
        refine wl_nil (x_then (hK9 _ _ ?_))
        clear hK9 K9
        refine forget [(0, _), (6, _)] ⟨rfl, rfl, trivial⟩ (fun e => ?_)
        refine c_seq (fun K10 hK10 => ?_)
        refine c_reg ?_ -- region 9 progm.go:142
        refine wl (ro_move rfl) ?_
        refine wl (ro_move rfl) ?_
        refine wl (ro_nilCheck rfl) ?_
        refine wl (ro_fieldAddr (k := 1) rfl fo_84_1) ?_
        refine wl (ro_loadB rfl sc_22 (B4) (rfl)) ?_
        refine wl (ro_move rfl) ?_
        refine wle (eo_bs1 rfl rfl se_22 zx_9 rfl rfl rfl) ?_
        have hN := Blk.new w4 [S c] 9
        have B5 := B4.alloc (.cells [S c].toArray 9)
        have O5 := O4.alloc (.cells [S c].toArray 9)
        have C5 := C4.alloc (.cells [S c].toArray 9)
        refine wl_app (news := [S c]) rfl rfl se_22 zx_9 by_9 rfl C5 hN rfl rfl (by simp [S, Value.oneCell']) (by omega) (by omega) ?_
        intro V6 w6 hown hgr hloc
        obtain ⟨a6, cap6, rfl⟩ := hown.form
        have FA : Fram (fun b => (Value.slice a1 cls.length cap1).ownBlock = some b) (w4.alloc (.cells [S c].toArray 9)) w6 := Fram.grown hgr (fun k hk => .inl hk)
        have hb6 : Blk w6.heap mb [.slice a3 (cls.length + 1) cap3, .slice a1 cls.length cap1] 84 := B5.fram FA (fun hk => C5.neblk B5 (by decide) _ hk rfl)
        have ht6 := O5.fram FA (fun b hb' h => hsep3 b hb' h)
        have hsep6 : ∀ b, (Value.slice a3 (cls.length + 1) cap3).ownBlock = some b → (Value.slice a6 (cls.length + 1) cap6).ownBlock ≠ some b := by
          intro b hb' hx
          rcases hloc with h | h
          · rw [h] at hx; exact hsep3 b hb' hx
          · rw [h] at hx; cases hx; have := O5.lt hb'; simp at this
        have hnew6 : ∀ b, (Value.slice a6 (cls.length + 1) cap6).ownBlock = some b → (Value.slice a1 cls.length cap1).ownBlock = some b ∨ w.heap.size ≤ b := by
          intro b hb'
          rcases hloc with h | h
          · rw [h] at hb'; exact .inl hb'
          · rw [h] at hb'; cases hb'; have := F4.size; exact .inr (by simp; omega)
        refine wl (ro_nilCheck rfl) ?_
        refine wl (ro_fieldAddr (k := 1) rfl fo_84_1) ?_
        refine wls (so_storeB rfl rfl rfl sz_22 (hb6) (by simp)) ?_
        have FS : Fram (fun b => b = mb) w6 (w6.setRow mb [.slice a3 (cls.length + 1) cap3, .slice a6 (cls.length + 1) cap6].toArray) := Fram.set w6 mb _ (.inl rfl)
        have B7 := hb6.set [.slice a3 (cls.length + 1) cap3, .slice a6 (cls.length + 1) cap6]
        have O7 := ht6.fram FS (fun b hb' he => ht6.neblk hb6 (by decide) b hb' he)
        have C7 := hown.fram FS (fun b hb' he => hown.neblk hb6 (by decide) b hb' he)
        have F7 : Fram (MPFoot mb (.slice a0 cls.length cap0) (.slice a1 cls.length cap1)) w _ := (F4.thenAlloc (o := .cells [S c].toArray 9)).trans ((FA.mono (fun k hk hx => .inr (.inr hx))).trans (FS.mono (fun k hk hx => .inl hx)))
        refine wl_nil (x_then (hK10 _ _ ?_))
        clear hK10 K10
        refine forget [(0, _)] ⟨rfl, trivial⟩ (fun e => ?_)
        refine c_seq (fun K11 hK11 => ?_)
        refine c_reg ?_ -- region 10 progm.go:143
        refine wl (ro_move rfl) ?_
        refine wl (ro_nilCheck rfl) ?_
        refine wl (ro_fieldAddr (k := 0) rfl fo_84_0) ?_
        refine wl (ro_loadB rfl sc_22 (B7) (rfl)) ?_
        refine wl (ro_lenL rfl se_22) ?_
        refine wl (ro_arith rfl rfl rfl (Go.IntWalk.i64_in _ (by omega))) ?_
        refine wl (ro_assign rfl) ?_
        refine wl (ro_assign rfl) ?_
        refine wl_nil (x_then (hK11 _ _ ?_))
        clear hK11 K11
        refine c_ret ?_
        refine bp_ret Tryz.results28 rfl ?_
        refine ⟨?_, _, _, ⟨B7, ?_, ?_, hsep6⟩, ?_, F7⟩
        · rw [e1]
          show Value.tuple #[.int .i64 (((cls.length + 1 : Nat) : Int) - 1), i64c 0] = _
          have : ((cls.length + 1 : Nat) : Int) - 1 = (cls.length : Int) := by omega
          rw [this]; rfl
        · rw [e2]; simpa using O7
        · rw [e2]; simpa using C7
        · rintro b (h | h | h)
          · exact .inl (.inl h)
          · rcases hnew3 b h with h | h
            · exact .inl (.inr (.inl h))
            · exact .inr h
          · rcases hnew6 b h with h | h
            · exact .inl (.inr (.inr h))
            · exact .inr h

end Go.Proofs.Qxb6500569aGreat
