import Derived.Test.Qxb6500569aGreatPj
/- The model's program. -/
namespace Go.Proofs.Qxb6500569aGreat
set_option linter.unusedVariables false
set_option linter.unusedSimpArgs false

/-- A clause: its text, its code. -/
abbrev Cl2 := List UInt8 × List UInt8

structure MP (H : Array Obj) (mb : Nat) (VT VC : Value) (cls : List Cl2) : Prop where
  blk : Blk H mb [VT, VC] 84
  txt : Own H VT 9 1 cls.length (cls.map (fun c => S c.1))
  cod : Own H VC 9 1 cls.length (cls.map (fun c => S c.2))
  sep : ∀ b, VT.ownBlock = some b → VC.ownBlock ≠ some b

def MPFoot (mb : Nat) (VT VC : Value) : Nat → Prop := fun b => b = mb ∨ VT.ownBlock = some b ∨ VC.ownBlock = some b

theorem MP.fram {F : Nat → Prop} {w w' : World} {mb : Nat} {VT VC : Value} {cls : List Cl2} (h : MP w.heap mb VT VC cls) (hf : Fram F w w') (hn : ∀ b, MPFoot mb VT VC b → ¬ F b) : MP w'.heap mb VT VC cls :=
  ⟨h.blk.fram hf (hn _ (.inl rfl)), h.txt.fram hf (fun b hb => hn b (.inr (.inl hb))), h.cod.fram hf (fun b hb => hn b (.inr (.inr hb))), h.sep⟩

theorem New17 {w : World} : Ret Tryz.prog 17 [] w (fun r w' => r = ptr w.heap.size ∧ MP w'.heap w.heap.size (.slice none 0 0) (.slice none 0 0) [] ∧ Fram none' w w') := by
  refine ret_of Tryz.func17 rfl Tryz.ntmps17 rfl ?_
  refine c_seq (fun K1 hK1 => ?_)
  refine c_reg ?_ -- region 0 progm.go:11
  refine wl (ro_assign rfl) ?_
  refine wl_nil (x_then (hK1 _ _ ?_))
  clear hK1 K1
  refine forget [] trivial (fun e => ?_)
  refine c_seq (fun K2 hK2 => ?_)
  refine c_reg ?_ -- region 1 progm.go:11
  refine wl (ro_build rfl bld_84) ?_
  refine wle (eo_box rfl rfl) ?_
  refine wl (ro_assign rfl) ?_
  refine wl_nil (x_then (hK2 _ _ ?_))
  clear hK2 K2
  refine c_ret ?_
  refine bp_ret Tryz.results17 rfl ?_
  exact ⟨rfl, ⟨Blk.new w _ _, Own.nil _ _ _, Own.nil _ _ _, fun b h => by cases h⟩, Fram.alloc _ _ _⟩

theorem Code66 {w : World} {mb : Nat} {VT VC : Value} {cls : List Cl2} (M : MP w.heap mb VT VC cls) {i : Nat} {c : Cl2} (hi : cls[i]? = some c) (h8 : cls.length ≤ 8) :
    Ret Tryz.prog 66 [ptr mb, i64c i] w (fun r w' => r = .tuple #[S c.2, i64c 0] ∧ w' = w) := by
  have hil := (List.getElem?_eq_some_iff.1 hi).1
  have hB := M.blk
  obtain ⟨g, cap, l, rfl, hBl, hc1, hc2, hl1, hl2⟩ := M.cod.pos (by omega)
  have hcell := own_cell (i := i) hl2 (v := S c.2) (by simp [hi])
  refine ret_of Tryz.func66 rfl Tryz.ntmps66 rfl ?_
  refine c_seq (fun K1 hK1 => ?_)
  refine c_reg ?_ -- region 0 progm.go:164
  refine wl (ro_assign rfl) ?_
  refine wl (ro_assign rfl) ?_
  refine wl_nil (x_then (hK1 _ _ ?_))
  clear hK1 K1
  refine c_seq (fun K2 hK2 => ?_)
  refine c_seq (fun K3 hK3 => ?_)
  refine c_reg ?_ -- region 1 progm.go:165
  refine wl (ro_move rfl) ?_
  refine wl (ro_cmp (r := false) rfl rfl (by simp)) ?_
  refine wl (ro_move rfl) ?_
  refine wlg_yes rfl (ro_move rfl) ?_
  refine wlg_yes rfl (ro_move rfl) ?_
  refine wlg_yes rfl (ro_nilCheck rfl) ?_
  refine wlg_yes rfl (ro_fieldAddr (k := 1) rfl fo_84_1) ?_
  refine wlg_yes rfl (ro_loadB rfl sc_22 (by assumption) rfl) ?_
  refine wlg_yes rfl (ro_lenL rfl se_22) ?_
  refine wlg_yes rfl (ro_cmp (r := false) rfl rfl (by simp; omega)) ?_
  refine wl (ro_pick rfl rfl rfl) ?_
  refine wl_nil (x_then (hK3 _ _ ?_))
  clear hK3 K3
  refine wc_condF rfl ?_
  refine c_skip (x_then (hK2 _ _ ?_))
  clear hK2 K2
  refine forget [(0, _), (1, _)] ⟨rfl, rfl, trivial⟩ (fun e => ?_)
  refine c_seq (fun K4 hK4 => ?_)
  refine c_reg ?_ -- region 3 progm.go:168
  refine wl (ro_move rfl) ?_
  refine wl (ro_nilCheck rfl) ?_
  refine wl (ro_fieldAddr (k := 1) rfl fo_84_1) ?_
  refine wl (ro_loadB rfl sc_22 (by assumption) rfl) ?_
  refine wl (ro_move rfl) ?_
  refine wl (ro_indexAddr (et := 9) (k := 1) rfl rfl se_22 rfl (hil)) ?_
  refine wl (ro_loadB rfl sc_9 (hBl) ((by rw [Nat.zero_add, Nat.mul_one]; exact hcell))) ?_
  refine wl (ro_assign rfl) ?_
  refine wl (ro_assign rfl) ?_
  refine wl_nil (x_then (hK4 _ _ ?_))
  clear hK4 K4
  refine c_ret ?_
  refine bp_ret Tryz.results66 rfl ?_
  exact ⟨rfl, rfl⟩

def qryV (o : Option (List UInt8)) : Value := match o with | some c => .tuple #[S c, i64c 0] | none => .tuple #[S [], i64c 5]

theorem Query33 {w : World} {mb : Nat} {text : List UInt8} (ht : text.length ≤ 40) :
    Ret Tryz.prog 33 [ptr mb, S text] w (fun r w' => r = qryV (compS text true) ∧ Fram none' w w') := by
  have hcp := compile53q (w := w) ht
  cases ho : compS text true with
  | none =>
    rw [ho] at hcp
    refine ret_of Tryz.func33 rfl Tryz.ntmps33 rfl ?_
    refine c_seq (fun K1 hK1 => ?_)
    refine c_reg ?_ -- region 0 progm.go:146
    refine wl (ro_assign rfl) ?_
    refine wl (ro_assign rfl) ?_
    refine wl_nil (x_then (hK1 _ _ ?_))
    clear hK1 K1
    refine c_seq (fun K2 hK2 => ?_)
    refine c_seq (fun K3 hK3 => ?_)
    refine c_reg ?_ -- region 1 progm.go:147
    refine wl (ro_move rfl) ?_
    refine wl (ro_lenS rfl st_9) ?_
    refine wl (ro_cmp (r := false) rfl rfl (by simp; omega)) ?_
    refine wl_nil (x_then (hK3 _ _ ?_))
    clear hK3 K3
    refine wc_condF rfl ?_
    refine c_skip (x_then (hK2 _ _ ?_))
    clear hK2 K2
    refine forget [(1, _)] ⟨rfl, trivial⟩ (fun e => ?_)
    refine c_seq (fun K4 hK4 => ?_)
    refine c_reg ?_ -- region 3 progm.go:150
    refine wl (ro_move rfl) ?_
    refine wl_call rfl en_53 (hcp) ?_
    rintro _ w1 ⟨rfl, F1⟩
    refine wl (ro_move rfl) ?_
    refine wl (ro_extract rfl rfl) ?_
    refine wl (ro_extract rfl rfl) ?_
    refine wl (ro_assign rfl) ?_
    refine wl (ro_assign rfl) ?_
    refine wl_nil (x_then (hK4 _ _ ?_))
    clear hK4 K4
    refine c_seq (fun K5 hK5 => ?_)
    refine c_seq (fun K6 hK6 => ?_)
    refine c_reg ?_ -- region 4 progm.go:151
    refine wl (ro_move rfl) ?_
    refine wl (ro_not rfl) ?_
    refine wl_nil (x_then (hK6 _ _ ?_))
    clear hK6 K6
    refine wc_condT rfl ?_
    refine c_seq (fun K7 hK7 => ?_)
    refine c_reg ?_ -- region 5 progm.go:152
    refine wl (ro_assign rfl) ?_
    refine wl (ro_assign rfl) ?_
    refine wl_nil (x_then (hK7 _ _ ?_))
    clear hK7 K7
    refine c_ret (x_thenR ?_)
    refine bp_ret Tryz.results33 rfl ?_
    exact ⟨rfl, F1⟩
  | some c =>
    rw [ho] at hcp
    refine ret_of Tryz.func33 rfl Tryz.ntmps33 rfl ?_
    refine c_seq (fun K1 hK1 => ?_)
    refine c_reg ?_ -- region 0 progm.go:146
    refine wl (ro_assign rfl) ?_
    refine wl (ro_assign rfl) ?_
    refine wl_nil (x_then (hK1 _ _ ?_))
    clear hK1 K1
    refine c_seq (fun K2 hK2 => ?_)
    refine c_seq (fun K3 hK3 => ?_)
    refine c_reg ?_ -- region 1 progm.go:147
    refine wl (ro_move rfl) ?_
    refine wl (ro_lenS rfl st_9) ?_
    refine wl (ro_cmp (r := false) rfl rfl (by simp; omega)) ?_
    refine wl_nil (x_then (hK3 _ _ ?_))
    clear hK3 K3
    refine wc_condF rfl ?_
    refine c_skip (x_then (hK2 _ _ ?_))
    clear hK2 K2
    refine forget [(1, _)] ⟨rfl, trivial⟩ (fun e => ?_)
    refine c_seq (fun K4 hK4 => ?_)
    refine c_reg ?_ -- region 3 progm.go:150
    refine wl (ro_move rfl) ?_
    refine wl_call rfl en_53 (hcp) ?_
    rintro _ w1 ⟨rfl, F1⟩
    refine wl (ro_move rfl) ?_
    refine wl (ro_extract rfl rfl) ?_
    refine wl (ro_extract rfl rfl) ?_
    refine wl (ro_assign rfl) ?_
    refine wl (ro_assign rfl) ?_
    refine wl_nil (x_then (hK4 _ _ ?_))
    clear hK4 K4
    refine c_seq (fun K5 hK5 => ?_)
    refine c_seq (fun K6 hK6 => ?_)
    refine c_reg ?_ -- region 4 progm.go:151
    refine wl (ro_move rfl) ?_
    refine wl (ro_not rfl) ?_
    refine wl_nil (x_then (hK6 _ _ ?_))
    clear hK6 K6
    refine wc_condF rfl ?_
    refine c_skip (x_then (hK5 _ _ ?_))
    clear hK5 K5
    refine forget [(6, _)] ⟨rfl, trivial⟩ (fun e => ?_)
    refine c_seq (fun K7 hK7 => ?_)
    refine c_reg ?_ -- region 6 progm.go:154
    refine wl (ro_move rfl) ?_
    refine wl (ro_assign rfl) ?_
    refine wl (ro_assign rfl) ?_
    refine wl_nil (x_then (hK7 _ _ ?_))
    clear hK7 K7
    refine c_ret ?_
    refine bp_ret Tryz.results33 rfl ?_
    exact ⟨rfl, F1⟩

/-- The program's soundness. -/
structure POK (cls : List Cl2) : Prop where
  n8 : cls.length ≤ 8
  tl : ∀ c ∈ cls, c.1.length ≤ 40
  cs : ∀ c ∈ cls, compS c.1 false = some c.2

def hits (c pred key : List UInt8) : Bool := decide (prdK c = pred) && (decide (key = []) || decide (ownK c = []) || decide (ownK c = key))

/-- The ids, from the i-th clause on. -/
def matchF (pred key : List UInt8) : Nat → List Cl2 → List UInt8
  | _, [] => []
  | i, c :: cls => if hits c.2 pred key then UInt8.ofNat (48 + i) :: matchF pred key (i + 1) cls else matchF pred key (i + 1) cls

def matchS (cls : List Cl2) (pred key : List UInt8) : List UInt8 := matchF pred key 0 cls

theorem d07 (k : Nat) (h : k < 8) : ([48, 49, 50, 51, 52, 53, 54, 55] : List UInt8)[k]? = some (UInt8.ofNat (48 + k)) := by
  match k, h with | 0, _ | 1, _ | 2, _ | 3, _ | 4, _ | 5, _ | 6, _ | 7, _ => rfl

theorem matchF_len (pred key : List UInt8) : ∀ (cls : List Cl2) (i : Nat), (matchF pred key i cls).length ≤ cls.length
  | [], i => by simp [matchF]
  | c :: cls, i => by
    have := matchF_len pred key cls (i + 1)
    simp only [matchF]
    split <;> simp <;> omega

theorem eqSd (a b : List UInt8) : (a == b) = decide (a = b) := by by_cases h : a = b <;> simp [h]

set_option maxHeartbeats 800000 in
theorem Match65 {w : World} {mb : Nat} {VT VC : Value} {cls : List Cl2} (M : MP w.heap mb VT VC cls) (ok : POK cls) (pred key : List UInt8) :
    Ret Tryz.prog 65 [ptr mb, S pred, S key] w (fun r w' => r = S (matchS cls pred key) ∧ w' = w) := by
  have hB := M.blk
  have h8 := ok.n8
  obtain ⟨a0, cap0, rfl⟩ := M.cod.form
  refine ret_of Tryz.func65 rfl Tryz.ntmps65 rfl ?_
  refine c_seq (fun K1 hK1 => ?_)
  refine c_reg ?_ -- region 0 progm.go:171
  refine wl (ro_assign rfl) ?_
  refine wl_nil (x_then (hK1 _ _ ?_))
  clear hK1 K1
  refine forget [(0, _), (1, _), (2, _)] ⟨rfl, rfl, rfl, trivial⟩ (fun e => ?_)
  refine c_seq (fun K2 hK2 => ?_)
  refine c_reg ?_ -- region 1 progm.go:172
  refine wl (ro_assign rfl) ?_
  refine wl_nil (x_then (hK2 _ _ ?_))
  clear hK2 K2
  refine c_seq (fun K3 hK3 => ?_)
  refine c_seq (fun K4 hK4 => ?_)
  refine c_reg ?_ -- region 2 progm.go:173
  refine wl (ro_assign rfl) ?_
  refine wl_nil (x_then (hK4 _ _ ?_))
  clear hK4 K4
  refine c_block ?_
  -- loop@r3: live slots [0, 1, 2, 7, 8]
  refine c_loopG (fun m a' w' => ∃ i out, m = cls.length - i ∧ i ≤ cls.length ∧ out ++ matchF pred key i (cls.drop i) = matchS cls pred key ∧ w' = w ∧ ∃ e, a' = Fr 61 (upds e [(0, ptr mb), (1, S pred), (2, S key), (7, S out), (8, i64c i)]) []) cls.length ⟨0, [], rfl, by omega, rfl, rfl, kp _ ⟨rfl, rfl, rfl, rfl, rfl, trivial⟩⟩ ?_
  rintro m a' w ⟨i, out, rfl, hi, hinv, rfl, e, rfl⟩
  have hol : out.length ≤ 8 := by have := congrArg List.length hinv; have h2 := matchF_len pred key cls 0; simp [matchS] at this; omega
  refine c_seq (fun K5 hK5 => ?_)
  refine c_seq (fun K6 hK6 => ?_)
  refine c_reg ?_ -- region 3 progm.go:173
  refine wl (ro_move rfl) ?_
  refine wl (ro_move rfl) ?_
  refine wl (ro_nilCheck rfl) ?_
  refine wl (ro_fieldAddr (k := 1) rfl fo_84_1) ?_
  refine wl (ro_loadB rfl sc_22 (by assumption) rfl) ?_
  refine wl (ro_lenL rfl se_22) ?_
  refine wl (ro_cmp rfl rfl rfl) ?_
  refine wl_nil (x_then (hK6 _ _ ?_))
  clear hK6 K6
  refine wc_cond rfl (fun hc17 => ?_) (fun hc17 => ?_)
  · try simp only [decide_eq_true_eq, decide_eq_false_iff_not, Bool.not_eq_true', Bool.not_eq_false', Bool.not_eq_eq_eq_not, Bool.not_true, Bool.not_false, beq_iff_eq, bne_iff_ne, ne_eq, beq_eq_false_iff_ne, bne_eq_false_iff_eq, gt_iff_lt, ge_iff_le, Int.not_lt, Int.not_le] at hc17
    have hil : i < cls.length := by omega
    obtain ⟨c, hc⟩ : ∃ c, cls[i]? = some c := ⟨_, List.getElem?_eq_getElem hil⟩
    have hsh := compS_shape (ok.cs c (List.mem_of_getElem? hc))
    have hl4 := hsh.l4
    obtain ⟨g, cap, l, hV, hBl, hc1, hc2, hl1, hl2⟩ := M.cod.pos (by omega)
    cases hV
    have hcell := own_cell (i := i) hl2 (v := S c.2) (by simp [hc])
    have hdi : cls.drop i = c :: cls.drop (i + 1) := by
      rw [List.drop_eq_getElem_cons hil, (List.getElem?_eq_some_iff.1 hc).2]
    rw [hdi] at hinv
    simp only [matchF] at hinv
    have h3 : c.2[3]? = some (c.2.getD 3 0) := by rw [List.getD_eq_getElem?_getD, List.getElem?_eq_getElem (by omega)]; rfl
    have hprd : (c.2.drop 2).take (4 - 2) = prdK c.2 := rfl
    refine c_skip (x_then (hK5 _ _ ?_))
    clear hK5 K5
    refine forget [(0, _), (1, _), (2, _), (7, _), (8, _)] ⟨rfl, rfl, rfl, rfl, rfl, trivial⟩ (fun e => ?_)
    refine c_seq (fun K7 hK7 => ?_)
    refine c_block ?_
    refine c_seq (fun K8 hK8 => ?_)
    refine c_reg ?_ -- region 5 progm.go:174
    refine wl (ro_move rfl) ?_
    refine wl (ro_nilCheck rfl) ?_
    refine wl (ro_fieldAddr (k := 1) rfl fo_84_1) ?_
    refine wl (ro_loadB rfl sc_22 (by assumption) rfl) ?_
    refine wl (ro_move rfl) ?_
    refine wl (ro_indexAddr (et := 9) (k := 1) rfl rfl se_22 rfl (hil)) ?_
    refine wl (ro_loadB rfl sc_9 (hBl) ((by rw [Nat.zero_add, Nat.mul_one]; exact hcell))) ?_
    refine wl (ro_assign rfl) ?_
    refine wl_nil (x_then (hK8 _ _ ?_))
    clear hK8 K8
    refine forget [(0, _), (1, _), (2, _), (7, _), (8, _), (9, _)] ⟨rfl, rfl, rfl, rfl, rfl, rfl, trivial⟩ (fun e => ?_)
    refine c_seq (fun K9 hK9 => ?_)
    refine c_reg ?_ -- region 6 progm.go:175
    refine wl (ro_assign rfl) ?_
    refine wl_nil (x_then (hK9 _ _ ?_))
    clear hK9 K9
    refine c_mid (fun a' w' => w' = w ∧ ∃ e, a' = Fr 61 (upds e [(0, ptr mb), (1, S pred), (2, S key), (7, S out), (8, i64c i), (9, S c.2), (10, S (ownK c.2))]) []) ?_ ?_
    · skip
      refine c_seq (fun K10 hK10 => ?_)
      by_cases hd : c.2.getD 3 0 = 48
      · skip
        refine c_reg ?_ -- region 7 progm.go:176
        refine wl (ro_move rfl) ?_
        refine wl (ro_indexS rfl rfl st_9 rfl (h3)) ?_
        refine wl (ro_cmp (r := false) rfl rfl (by rw [hd]; rfl)) ?_
        refine wl (ro_move rfl) ?_
        refine wlg_no rfl ?_
        refine wlg_no rfl ?_
        refine wlg_no rfl ?_
        refine wl (ro_pick rfl rfl rfl) ?_
        refine wl_nil (x_then (hK10 _ _ ?_))
        clear hK10 K10
        refine wc_condF rfl ?_
        refine c_skip (x_then ?_)
        have hown : ownK c.2 = [] := by unfold ownK; rw [if_neg (fun h => h.1 hd)]
        rw [hown]
        exact ⟨rfl, kp _ ⟨rfl, rfl, rfl, rfl, rfl, rfl, rfl, trivial⟩⟩
      · skip
        have hl5 := hsh.l5 hd
        have h4 : c.2[4]? = some (c.2.getD 4 0) := by rw [List.getD_eq_getElem?_getD, List.getElem?_eq_getElem (by omega)]; rfl
        refine c_reg ?_ -- region 7 progm.go:176
        refine wl (ro_move rfl) ?_
        refine wl (ro_indexS rfl rfl st_9 rfl (h3)) ?_
        refine wl (ro_cmp (r := true) rfl rfl (congrArg some (show (!(((c.2.getD 3 0).toNat : Int) == ((48 : UInt8).toNat : Int))) = true by rw [beqb]; simp only [hd, decide_false, Bool.not_false]))) ?_
        refine wl (ro_move rfl) ?_
        refine wlg_yes rfl (ro_move rfl) ?_
        refine wlg_yes rfl (ro_indexS rfl rfl st_9 rfl (h4)) ?_
        refine wlg_yes rfl (ro_cmp rfl rfl rfl) ?_
        refine wl (ro_pick rfl rfl rfl) ?_
        refine wl_nil (x_then (hK10 _ _ ?_))
        clear hK10 K10
        refine wc_cond rfl (fun hc34 => ?_) (fun hc34 => ?_)
        · try simp only [decide_eq_true_eq, decide_eq_false_iff_not, Bool.not_eq_true', Bool.not_eq_false', Bool.not_eq_eq_eq_not, Bool.not_true, Bool.not_false, beq_iff_eq, bne_iff_ne, ne_eq, beq_eq_false_iff_ne, bne_eq_false_iff_eq, gt_iff_lt, ge_iff_le, Int.not_lt, Int.not_le] at hc34
          have h97 : 97 ≤ (c.2.getD 4 0).toNat := by omega
          have hl6 := hsh.l6 hd h97
          have hown : (c.2.drop 4).take (6 - 4) = ownK c.2 := by unfold ownK; rw [if_pos ⟨hd, h97⟩]
          refine c_reg ?_ -- region 8 progm.go:177
          refine wl (ro_move rfl) ?_
          refine wl ((show RO _ _ _ _ _ (S (ownK c.2)) from hown ▸ ro_sliceSLH (l := 4) (h := 6) rfl rfl rfl st_9 rfl rfl (by omega) (by omega))) ?_
          refine wl (ro_assign rfl) ?_
          refine wl_nil (x_then ?_)
          exact ⟨rfl, kp _ ⟨rfl, rfl, rfl, rfl, rfl, rfl, rfl, trivial⟩⟩
        · try simp only [decide_eq_true_eq, decide_eq_false_iff_not, Bool.not_eq_true', Bool.not_eq_false', Bool.not_eq_eq_eq_not, Bool.not_true, Bool.not_false, beq_iff_eq, bne_iff_ne, ne_eq, beq_eq_false_iff_ne, bne_eq_false_iff_eq, gt_iff_lt, ge_iff_le, Int.not_lt, Int.not_le] at hc34
          have h97 : ¬ 97 ≤ (c.2.getD 4 0).toNat := by omega
          refine c_skip (x_then ?_)
          have hown : ownK c.2 = [] := by unfold ownK; rw [if_neg (fun h => h97 h.2)]
          rw [hown]
          exact ⟨rfl, kp _ ⟨rfl, rfl, rfl, rfl, rfl, rfl, rfl, trivial⟩⟩
    rintro a' w ⟨rfl, e, rfl⟩
    refine c_seq (fun K11 hK11 => ?_)
    rcases (show prdK c.2 ≠ pred ∨ (prdK c.2 = pred ∧ key = []) ∨ (prdK c.2 = pred ∧ key ≠ [] ∧ ownK c.2 = []) ∨ (prdK c.2 = pred ∧ key ≠ [] ∧ ownK c.2 ≠ []) by { by_cases g1 : prdK c.2 = pred; by_cases g2 : key = []; exact .inr (.inl ⟨g1, g2⟩); by_cases g3 : ownK c.2 = []; exact .inr (.inr (.inl ⟨g1, g2, g3⟩)); exact .inr (.inr (.inr ⟨g1, g2, g3⟩)); exact .inl g1 }) with hp | ⟨hp, hk⟩ | ⟨hp, hk, ho⟩ | ⟨hp, hk, ho⟩
    · skip
      refine c_reg ?_ -- region 9 progm.go:179
      refine wl (ro_move rfl) ?_
      refine wl ((show RO _ _ _ _ _ (S (prdK c.2)) from hprd ▸ ro_sliceSLH (l := 2) (h := 4) rfl rfl rfl st_9 rfl rfl (by omega) (by omega))) ?_
      refine wl (ro_move rfl) ?_
      refine wl (ro_eqS (r := false) rfl rfl (by show some (prdK c.2 == pred) = some false; rw [eqSd]; simp [hp])) ?_
      refine wl (ro_move rfl) ?_
      refine wlg_no rfl ?_
      refine wlg_no rfl ?_
      refine wlg_no rfl ?_
      refine wlg_no rfl ?_
      refine wlg_no rfl ?_
      refine wlg_no rfl ?_
      refine wlg_no rfl ?_
      refine wlg_no rfl ?_
      refine wlg_no rfl ?_
      refine wlg_no rfl ?_
      refine wlg_no rfl ?_
      refine wl (ro_pick rfl rfl rfl) ?_
      refine wl_nil (x_then (hK11 _ _ ?_))
      clear hK11 K11
      refine wc_condF rfl ?_
      refine c_skip (x_blk (x_then (hK7 _ _ ?_)))
      clear hK7 K7
      refine c_reg ?_ -- region 4 progm.go:173
      refine wl (ro_move rfl) ?_
      refine wl (ro_arith rfl rfl rfl (Go.IntWalk.i64_in _ (by omega))) ?_
      refine wl (ro_assign rfl) ?_
      refine wl_nil (x_then ?_)
      have hh : hits c.2 pred key = false := by simp [hits, hp]
      rw [hh] at hinv
      exact ⟨cls.length - (i + 1), by omega, i + 1, out, rfl, by omega, by simpa using hinv, rfl, kp _ ⟨rfl, rfl, rfl, rfl, rfl, trivial⟩⟩
    · skip
      refine c_reg ?_ -- region 9 progm.go:179
      refine wl (ro_move rfl) ?_
      refine wl ((show RO _ _ _ _ _ (S (prdK c.2)) from hprd ▸ ro_sliceSLH (l := 2) (h := 4) rfl rfl rfl st_9 rfl rfl (by omega) (by omega))) ?_
      refine wl (ro_move rfl) ?_
      refine wl (ro_eqS (r := true) rfl rfl (by show some (prdK c.2 == pred) = some true; rw [eqSd]; simp [hp])) ?_
      refine wl (ro_move rfl) ?_
      refine wlg_yes rfl (ro_move rfl) ?_
      refine wlg_yes rfl (ro_eqS (r := true) rfl rfl (by show some (key == []) = some true; rw [eqSd]; simp [hk])) ?_
      refine wlg_yes rfl (ro_move rfl) ?_
      refine wlg_no rfl ?_
      refine wlg_no rfl ?_
      refine wlg_yes rfl (ro_pick rfl rfl rfl) ?_
      refine wlg_yes rfl (ro_move rfl) ?_
      refine wlg_no rfl ?_
      refine wlg_no rfl ?_
      refine wlg_no rfl ?_
      refine wlg_yes rfl (ro_pick rfl rfl rfl) ?_
      refine wl (ro_pick rfl rfl rfl) ?_
      refine wl_nil (x_then (hK11 _ _ ?_))
      clear hK11 K11
      refine wc_condT rfl ?_
      refine c_reg ?_ -- region 10 progm.go:180
      refine wl (ro_move rfl) ?_
      refine wl (ro_move rfl) ?_
      refine wl (ro_move rfl) ?_
      refine wl (ro_arith rfl rfl rfl (Go.IntWalk.i64_in _ (by omega))) ?_
      refine wl ((show RO _ _ _ _ _ (S [UInt8.ofNat (48 + i)]) from take1 (d07 i (by omega)) ▸ ro_sliceSLH (s := [48, 49, 50, 51, 52, 53, 54, 55]) (l := i) (h := i + 1) rfl rfl rfl st_9 rfl (by omega) (by omega) (by simp; omega))) ?_
      refine wl (ro_catS rfl rfl (by simp; omega)) ?_
      refine wl (ro_assign rfl) ?_
      refine wl_nil (x_blk (x_then (hK7 _ _ ?_)))
      clear hK7 K7
      refine c_reg ?_ -- region 4 progm.go:173
      refine wl (ro_move rfl) ?_
      refine wl (ro_arith rfl rfl rfl (Go.IntWalk.i64_in _ (by omega))) ?_
      refine wl (ro_assign rfl) ?_
      refine wl_nil (x_then ?_)
      have hh : hits c.2 pred key = true := by simp [hits, hp, hk]
      rw [hh] at hinv
      exact ⟨cls.length - (i + 1), by omega, i + 1, _, rfl, by omega, by simpa using hinv, rfl, kp _ ⟨rfl, rfl, rfl, rfl, rfl, trivial⟩⟩
    · skip
      refine c_reg ?_ -- region 9 progm.go:179
      refine wl (ro_move rfl) ?_
      refine wl ((show RO _ _ _ _ _ (S (prdK c.2)) from hprd ▸ ro_sliceSLH (l := 2) (h := 4) rfl rfl rfl st_9 rfl rfl (by omega) (by omega))) ?_
      refine wl (ro_move rfl) ?_
      refine wl (ro_eqS (r := true) rfl rfl (by show some (prdK c.2 == pred) = some true; rw [eqSd]; simp [hp])) ?_
      refine wl (ro_move rfl) ?_
      refine wlg_yes rfl (ro_move rfl) ?_
      refine wlg_yes rfl (ro_eqS (r := false) rfl rfl (by show some (key == []) = some false; rw [eqSd]; simp [hk])) ?_
      refine wlg_yes rfl (ro_move rfl) ?_
      refine wlg_yes rfl (ro_move rfl) ?_
      refine wlg_yes rfl (ro_eqS (r := true) rfl rfl (by show some (ownK c.2 == []) = some true; rw [eqSd]; simp [ho])) ?_
      refine wlg_yes rfl (ro_pick rfl rfl rfl) ?_
      refine wlg_yes rfl (ro_move rfl) ?_
      refine wlg_no rfl ?_
      refine wlg_no rfl ?_
      refine wlg_no rfl ?_
      refine wlg_yes rfl (ro_pick rfl rfl rfl) ?_
      refine wl (ro_pick rfl rfl rfl) ?_
      refine wl_nil (x_then (hK11 _ _ ?_))
      clear hK11 K11
      refine wc_condT rfl ?_
      refine c_reg ?_ -- region 10 progm.go:180
      refine wl (ro_move rfl) ?_
      refine wl (ro_move rfl) ?_
      refine wl (ro_move rfl) ?_
      refine wl (ro_arith rfl rfl rfl (Go.IntWalk.i64_in _ (by omega))) ?_
      refine wl ((show RO _ _ _ _ _ (S [UInt8.ofNat (48 + i)]) from take1 (d07 i (by omega)) ▸ ro_sliceSLH (s := [48, 49, 50, 51, 52, 53, 54, 55]) (l := i) (h := i + 1) rfl rfl rfl st_9 rfl (by omega) (by omega) (by simp; omega))) ?_
      refine wl (ro_catS rfl rfl (by simp; omega)) ?_
      refine wl (ro_assign rfl) ?_
      refine wl_nil (x_blk (x_then (hK7 _ _ ?_)))
      clear hK7 K7
      refine c_reg ?_ -- region 4 progm.go:173
      refine wl (ro_move rfl) ?_
      refine wl (ro_arith rfl rfl rfl (Go.IntWalk.i64_in _ (by omega))) ?_
      refine wl (ro_assign rfl) ?_
      refine wl_nil (x_then ?_)
      have hh : hits c.2 pred key = true := by simp [hits, hp, ho]
      rw [hh] at hinv
      exact ⟨cls.length - (i + 1), by omega, i + 1, _, rfl, by omega, by simpa using hinv, rfl, kp _ ⟨rfl, rfl, rfl, rfl, rfl, trivial⟩⟩
    · skip
      refine c_reg ?_ -- region 9 progm.go:179
      refine wl (ro_move rfl) ?_
      refine wl ((show RO _ _ _ _ _ (S (prdK c.2)) from hprd ▸ ro_sliceSLH (l := 2) (h := 4) rfl rfl rfl st_9 rfl rfl (by omega) (by omega))) ?_
      refine wl (ro_move rfl) ?_
      refine wl (ro_eqS (r := true) rfl rfl (by show some (prdK c.2 == pred) = some true; rw [eqSd]; simp [hp])) ?_
      refine wl (ro_move rfl) ?_
      refine wlg_yes rfl (ro_move rfl) ?_
      refine wlg_yes rfl (ro_eqS (r := false) rfl rfl (by show some (key == []) = some false; rw [eqSd]; simp [hk])) ?_
      refine wlg_yes rfl (ro_move rfl) ?_
      refine wlg_yes rfl (ro_move rfl) ?_
      refine wlg_yes rfl (ro_eqS (r := false) rfl rfl (by show some (ownK c.2 == []) = some false; rw [eqSd]; simp [ho])) ?_
      refine wlg_yes rfl (ro_pick rfl rfl rfl) ?_
      refine wlg_yes rfl (ro_move rfl) ?_
      refine wlg_yes rfl (ro_move rfl) ?_
      refine wlg_yes rfl (ro_move rfl) ?_
      refine wlg_yes rfl (ro_eqS (r := decide (ownK c.2 = key)) rfl rfl (congrArg some (eqSd _ _))) ?_
      refine wlg_yes rfl (ro_pick rfl rfl rfl) ?_
      refine wl (ro_pick rfl rfl rfl) ?_
      refine wl_nil (x_then (hK11 _ _ ?_))
      clear hK11 K11
      refine wc_cond rfl (fun hc53 => ?_) (fun hc53 => ?_)
      · try simp only [decide_eq_true_eq, decide_eq_false_iff_not, Bool.not_eq_true', Bool.not_eq_false', Bool.not_eq_eq_eq_not, Bool.not_true, Bool.not_false, beq_iff_eq, bne_iff_ne, ne_eq, beq_eq_false_iff_ne, bne_eq_false_iff_eq, gt_iff_lt, ge_iff_le, Int.not_lt, Int.not_le] at hc53
        have hq : ownK c.2 = key := by simpa using hc53
        refine c_reg ?_ -- region 10 progm.go:180
        refine wl (ro_move rfl) ?_
        refine wl (ro_move rfl) ?_
        refine wl (ro_move rfl) ?_
        refine wl (ro_arith rfl rfl rfl (Go.IntWalk.i64_in _ (by omega))) ?_
        refine wl ((show RO _ _ _ _ _ (S [UInt8.ofNat (48 + i)]) from take1 (d07 i (by omega)) ▸ ro_sliceSLH (s := [48, 49, 50, 51, 52, 53, 54, 55]) (l := i) (h := i + 1) rfl rfl rfl st_9 rfl (by omega) (by omega) (by simp; omega))) ?_
        refine wl (ro_catS rfl rfl (by simp; omega)) ?_
        refine wl (ro_assign rfl) ?_
        refine wl_nil (x_blk (x_then (hK7 _ _ ?_)))
        clear hK7 K7
        refine c_reg ?_ -- region 4 progm.go:173
        refine wl (ro_move rfl) ?_
        refine wl (ro_arith rfl rfl rfl (Go.IntWalk.i64_in _ (by omega))) ?_
        refine wl (ro_assign rfl) ?_
        refine wl_nil (x_then ?_)
        have hh : hits c.2 pred key = true := by simp [hits, hp, hq]
        rw [hh] at hinv
        exact ⟨cls.length - (i + 1), by omega, i + 1, _, rfl, by omega, by simpa using hinv, rfl, kp _ ⟨rfl, rfl, rfl, rfl, rfl, trivial⟩⟩
      · try simp only [decide_eq_true_eq, decide_eq_false_iff_not, Bool.not_eq_true', Bool.not_eq_false', Bool.not_eq_eq_eq_not, Bool.not_true, Bool.not_false, beq_iff_eq, bne_iff_ne, ne_eq, beq_eq_false_iff_ne, bne_eq_false_iff_eq, gt_iff_lt, ge_iff_le, Int.not_lt, Int.not_le] at hc53
        have hq : ¬ ownK c.2 = key := by simpa using hc53
        refine c_skip (x_blk (x_then (hK7 _ _ ?_)))
        clear hK7 K7
        refine c_reg ?_ -- region 4 progm.go:173
        refine wl (ro_move rfl) ?_
        refine wl (ro_arith rfl rfl rfl (Go.IntWalk.i64_in _ (by omega))) ?_
        refine wl (ro_assign rfl) ?_
        refine wl_nil (x_then ?_)
        have hh : hits c.2 pred key = false := by simp [hits, hp, hq, hk, ho]
        rw [hh] at hinv
        exact ⟨cls.length - (i + 1), by omega, i + 1, out, rfl, by omega, by simpa using hinv, rfl, kp _ ⟨rfl, rfl, rfl, rfl, rfl, trivial⟩⟩
  · try simp only [decide_eq_true_eq, decide_eq_false_iff_not, Bool.not_eq_true', Bool.not_eq_false', Bool.not_eq_eq_eq_not, Bool.not_true, Bool.not_false, beq_iff_eq, bne_iff_ne, ne_eq, beq_eq_false_iff_ne, bne_eq_false_iff_eq, gt_iff_lt, ge_iff_le, Int.not_lt, Int.not_le] at hc17
    have hie : i = cls.length := by omega
    refine c_exit (x_thenX (x_thenX (x_blkX (x_then (hK3 _ _ ?_)))))
    clear hK5 K5 hK3 K3
    refine forget [(7, _)] ⟨rfl, trivial⟩ (fun e => ?_)
    refine c_seq (fun K12 hK12 => ?_)
    refine c_reg ?_ -- region 11 progm.go:183
    refine wl (ro_move rfl) ?_
    refine wl (ro_assign rfl) ?_
    refine wl_nil (x_then (hK12 _ _ ?_))
    clear hK12 K12
    refine c_ret ?_
    refine bp_ret Tryz.results65 rfl ?_
    refine ⟨?_, rfl⟩
    rw [hie, List.drop_length] at hinv
    simp only [matchF, List.append_nil] at hinv
    rw [← hinv]

end Go.Proofs.Qxb6500569aGreat
