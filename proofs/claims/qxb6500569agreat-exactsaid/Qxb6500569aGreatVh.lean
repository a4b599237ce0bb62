import Derived.Test.Qxb6500569aGreatVg
/- The real program: Code, Show, Query, New. -/
namespace Go.Proofs.Qxb6500569aGreat
set_option linter.unusedVariables false
set_option linter.unusedSimpArgs false

theorem at111 {w : World} {pb : Nat} {cls : List Cl2} {VC : Value} {clbs ra : List Nat} {la lo : List (K2 × Value)} {lk : List (K4 × Value)} {F : Nat → Prop} (M : PrM w.heap pb cls VC clbs ra la lo lk F) (h8 : cls.length ≤ 8) {i b : Nat} (hi : clbs[i]? = some b) :
    Ret Tryz.prog 111 [ptr pb, i64c i] w (fun r w' => r = ptr b ∧ w' = w) := by
  have hil := (List.getElem?_eq_some_iff.1 hi).1
  have hln := M.ln
  have hB := M.blk
  obtain ⟨g, cap, l, rfl, hBl, hc1, hc2, hl1, hl2⟩ := M.own.pos (by omega)
  have hcell := own_cell (i := i) hl2 (v := ptr b) (by simp [hi])
  refine ret_of Tryz.func111 rfl Tryz.ntmps111 rfl ?_
  refine c_seq (fun K1 hK1 => ?_)
  refine c_reg ?_ -- region 0 prog.go:99
  refine wl (ro_assign rfl) ?_
  refine wl_nil (x_then (hK1 _ _ ?_))
  clear hK1 K1
  refine forget [(0, _), (1, _)] ⟨rfl, rfl, trivial⟩ (fun e => ?_)
  refine c_seq (fun K2 hK2 => ?_)
  refine c_reg ?_ -- region 1 prog.go:100
  refine wl (ro_assign rfl) ?_
  refine wl_nil (x_then (hK2 _ _ ?_))
  clear hK2 K2
  refine c_seq (fun K3 hK3 => ?_)
  refine c_seq (fun K4 hK4 => ?_)
  refine c_reg ?_ -- region 2 prog.go:101
  refine wl (ro_move rfl) ?_
  refine wl (ro_cmp (r := true) rfl rfl (by simp)) ?_
  refine wl (ro_move rfl) ?_
  refine wlg_yes rfl (ro_move rfl) ?_
  refine wlg_yes rfl (ro_move rfl) ?_
  refine wlg_yes rfl (ro_nilCheck rfl) ?_
  refine wlg_yes rfl (ro_fieldAddr (k := 0) rfl fo_74_0) ?_
  refine wlg_yes rfl (ro_loadB rfl sc_72 (hB) rfl) ?_
  refine wlg_yes rfl (ro_lenL rfl se_72) ?_
  refine wlg_yes rfl (ro_cmp (r := true) rfl rfl (by simp; omega)) ?_
  refine wl (ro_pick rfl rfl rfl) ?_
  refine wl_nil (x_then (hK4 _ _ ?_))
  clear hK4 K4
  refine wc_condT rfl ?_
  refine c_reg ?_ -- region 3 prog.go:102
  refine wl (ro_move rfl) ?_
  refine wl (ro_nilCheck rfl) ?_
  refine wl (ro_fieldAddr (k := 0) rfl fo_74_0) ?_
  refine wl (ro_loadB rfl sc_72 (hB) rfl) ?_
  refine wl (ro_move rfl) ?_
  refine wl (ro_indexAddr (et := 104) (k := 1) rfl rfl se_72 rfl ((show i < cls.length by omega))) ?_
  refine wl (ro_loadB rfl sc_104 (hBl) ((by rw [Nat.zero_add, Nat.mul_one]; exact hcell))) ?_
  refine wl (ro_assign rfl) ?_
  refine wl_nil (x_then (hK3 _ _ ?_))
  clear hK3 K3
  refine forget [(5, _)] ⟨rfl, trivial⟩ (fun e => ?_)
  refine c_seq (fun K5 hK5 => ?_)
  refine c_reg ?_ -- region 4 prog.go:104
  refine wl (ro_move rfl) ?_
  refine wl (ro_assign rfl) ?_
  refine wl_nil (x_then (hK5 _ _ ?_))
  clear hK5 K5
  refine c_ret ?_
  refine bp_ret Tryz.results111 rfl ?_
  exact ⟨rfl, rfl⟩

theorem Code77 {w : World} {pb : Nat} {cls : List Cl2} {F : Nat → Prop} (M : PrX w.heap pb cls F) (ok : POK cls) {i : Nat} {c : Cl2} (hi : cls[i]? = some c) :
    Ret Tryz.prog 77 [ptr pb, i64c i] w (fun r w' => r = .tuple #[S c.2, i64c 0] ∧ Fram none' w w') := by
  obtain ⟨VC, clbs, ra, la, lo, lk, M⟩ := M
  have hil := (List.getElem?_eq_some_iff.1 hi).1
  have hln := M.ln
  obtain ⟨b, hb⟩ : ∃ b, clbs[i]? = some b := ⟨_, List.getElem?_eq_getElem (by omega)⟩
  obtain ⟨Bs, hCl, hBs⟩ := M.cl i c b hi hb
  have hcs := ok.cs c (List.mem_of_getElem? hi)
  have htl := ok.tl c (List.mem_of_getElem? hi)
  have hcl := (compS_ok hcs).2
  refine ret_of Tryz.func77 rfl Tryz.ntmps77 rfl ?_
  refine c_seq (fun K1 hK1 => ?_)
  refine c_reg ?_ -- region 0 prog.go:117
  refine wl (ro_assign rfl) ?_
  refine wl (ro_assign rfl) ?_
  refine wl_nil (x_then (hK1 _ _ ?_))
  clear hK1 K1
  refine forget [(0, _), (1, _)] ⟨rfl, rfl, trivial⟩ (fun e => ?_)
  refine c_seq (fun K2 hK2 => ?_)
  refine c_reg ?_ -- region 1 prog.go:118
  refine wl (ro_move rfl) ?_
  refine wl (ro_move rfl) ?_
  refine wl_call rfl en_111 (at111 M ok.n8 hb) ?_
  rintro _ w ⟨rfl, rfl⟩
  refine wl (ro_assign rfl) ?_
  refine wl_nil (x_then (hK2 _ _ ?_))
  clear hK2 K2
  refine c_seq (fun K3 hK3 => ?_)
  refine c_seq (fun K4 hK4 => ?_)
  refine c_reg ?_ -- region 2 prog.go:119
  refine wl (ro_move rfl) ?_
  refine wl (ro_eqPtrNil rfl pt_104 rfl) ?_
  refine wl_nil (x_then (hK4 _ _ ?_))
  clear hK4 K4
  refine wc_condF rfl ?_
  refine c_skip (x_then (hK3 _ _ ?_))
  clear hK3 K3
  refine forget [(6, _)] ⟨rfl, trivial⟩ (fun e => ?_)
  refine c_seq (fun K5 hK5 => ?_)
  refine c_reg ?_ -- region 4 prog.go:122
  refine wl (ro_move rfl) ?_
  refine wl_call rfl en_54 (code54 hCl (by omega)) ?_
  rintro _ w1 ⟨rfl, F1⟩
  refine wl (ro_assign rfl) ?_
  refine wl (ro_assign rfl) ?_
  refine wl_nil (x_then (hK5 _ _ ?_))
  clear hK5 K5
  refine c_ret ?_
  refine bp_ret Tryz.results77 rfl ?_
  exact ⟨rfl, F1⟩

theorem compS_pos {s code : List UInt8} (h : compS s false = some code) : 0 < s.length := by
  cases s with
  | nil => rw [show compS [] false = none from rfl] at h; cases h
  | cons a s => simp

theorem Show38 {w : World} {pb : Nat} {cls : List Cl2} {F : Nat → Prop} (M : PrX w.heap pb cls F) (ok : POK cls) :
    Ret Tryz.prog 38 [ptr pb] w (fun r w' => r = S (showP cls) ∧ Fram none' w w') := by
  obtain ⟨VC, clbs, ra, la, lo, lk, M⟩ := M
  have hln := M.ln
  have hB := M.blk
  have h8 := ok.n8
  have hsl := showP_len ok
  obtain ⟨a0, cap0, rfl⟩ := M.own.form
  refine ret_of Tryz.func38 rfl Tryz.ntmps38 rfl ?_
  refine c_seq (fun K1 hK1 => ?_)
  refine c_reg ?_ -- region 0 prog.go:154
  refine wl (ro_assign rfl) ?_
  refine wl_nil (x_then (hK1 _ _ ?_))
  clear hK1 K1
  refine forget [(0, _)] ⟨rfl, trivial⟩ (fun e => ?_)
  refine c_seq (fun K2 hK2 => ?_)
  refine c_reg ?_ -- region 1 prog.go:155
  refine wl (ro_assign rfl) ?_
  refine wl_nil (x_then (hK2 _ _ ?_))
  clear hK2 K2
  refine c_seq (fun K3 hK3 => ?_)
  refine c_seq (fun K4 hK4 => ?_)
  refine c_reg ?_ -- region 2 prog.go:156
  refine wl (ro_move rfl) ?_
  refine wl (ro_nilCheck rfl) ?_
  refine wl (ro_fieldAddr (k := 0) rfl fo_74_0) ?_
  refine wl (ro_loadB rfl sc_72 (by assumption) rfl) ?_
  refine wl (ro_lenL rfl se_72) ?_
  refine wl (ro_move rfl) ?_
  refine wl_nil (x_then (hK4 _ _ ?_))
  clear hK4 K4
  refine c_block ?_
  -- loop@r3: live slots [3, 9, 10, 11]
  refine c_loopG (fun m a' w' => ∃ i out, m = cls.length - i ∧ i ≤ cls.length ∧ out ++ (cls.drop i).flatMap (fun c => 32 :: c.1) = showP cls ∧ Fram none' w w' ∧ ∃ e, a' = Fr 22 (upds e [(3, S out), (9, .slice a0 cls.length cap0), (10, i64c cls.length), (11, i64c i)]) []) cls.length ⟨0, [80], rfl, by omega, rfl, Fram.refl _ _, kp _ ⟨rfl, rfl, rfl, rfl, trivial⟩⟩ ?_
  rintro m a' w1 ⟨i, out, rfl, hi, hinv, F1, e, rfl⟩
  have hol : out.length ≤ 400 := by have := congrArg List.length hinv; simp at this; omega
  have M1 := M.fram F1 (fun _ _ h => h)
  refine c_seq (fun K5 hK5 => ?_)
  refine c_reg ?_ -- region 3 prog.go:156
  refine wl (ro_cmp rfl rfl rfl) ?_
  refine wl_nil (x_then (hK5 _ _ ?_))
  clear hK5 K5
  refine forget [(3, _), (9, _), (10, _), (11, _), (12, _)] ⟨rfl, rfl, rfl, rfl, rfl, trivial⟩ (fun e => ?_)
  refine c_seq (fun K6 hK6 => ?_)
  refine wc_cond rfl (fun hc12 => ?_) (fun hc12 => ?_)
  · try simp only [decide_eq_true_eq, decide_eq_false_iff_not, Bool.not_eq_true', Bool.not_eq_false', Bool.not_eq_eq_eq_not, Bool.not_true, Bool.not_false, beq_iff_eq, bne_iff_ne, ne_eq, beq_eq_false_iff_ne, bne_eq_false_iff_eq, gt_iff_lt, ge_iff_le, Int.not_lt, Int.not_le] at hc12
    have hil : i < cls.length := by omega
    obtain ⟨c, hc⟩ : ∃ c, cls[i]? = some c := ⟨_, List.getElem?_eq_getElem hil⟩
    obtain ⟨b, hb⟩ : ∃ b, clbs[i]? = some b := ⟨_, List.getElem?_eq_getElem (by omega)⟩
    obtain ⟨Bs, hCl, hBs⟩ := M1.cl i c b hc hb
    have hct := ok.tl c (List.mem_of_getElem? hc)
    have hcp := compS_pos (ok.cs c (List.mem_of_getElem? hc))
    obtain ⟨g, cap, l, hV, hBl, hc1, hc2, hl1, hl2⟩ := M1.own.pos (by omega)
    cases hV
    have hcell := own_cell (i := i) hl2 (v := ptr b) (by simp [hb])
    have hdi : cls.drop i = c :: cls.drop (i + 1) := by
      rw [List.drop_eq_getElem_cons hil, (List.getElem?_eq_some_iff.1 hc).2]
    rw [hdi] at hinv
    refine c_skip (x_then (hK6 _ _ ?_))
    clear hK6 K6
    refine forget [(3, _), (9, _), (10, _), (11, _)] ⟨rfl, rfl, rfl, rfl, trivial⟩ (fun e => ?_)
    refine c_seq (fun K7 hK7 => ?_)
    refine c_block ?_
    refine c_seq (fun K8 hK8 => ?_)
    refine c_reg ?_ -- region 4 prog.go:156
    refine wl (ro_indexAddr (et := 104) (k := 1) rfl rfl se_72 rfl (hil)) ?_
    refine wl (ro_loadB rfl sc_104 (hBl) ((by rw [Nat.zero_add, Nat.mul_one]; exact hcell))) ?_
    refine wl (ro_assign rfl) ?_
    refine wl_nil (x_then (hK8 _ _ ?_))
    clear hK8 K8
    refine c_reg ?_ -- region 5 prog.go:157
    refine wl (ro_move rfl) ?_
    refine wl (ro_catS rfl rfl (by simp; omega)) ?_
    refine wl (ro_move rfl) ?_
    refine wl_call rfl en_69 (text69 hCl (by omega) hcp) ?_
    rintro _ w2 ⟨rfl, F2⟩
    refine wl (ro_catS rfl rfl (by simp; omega)) ?_
    refine wl (ro_assign rfl) ?_
    refine wl_nil (x_blk (x_then (hK7 _ _ ?_)))
    clear hK7 K7
    refine c_reg ?_ -- region 6 prog.go:156
    refine wl (ro_arith rfl rfl rfl (Go.IntWalk.i64_in _ (by omega))) ?_
    refine wl (ro_move rfl) ?_
    refine wl_nil (x_then ?_)
    exact ⟨cls.length - (i + 1), by omega, i + 1, _, rfl, by omega, by simpa using hinv, F1.trans F2, kp _ ⟨rfl, rfl, rfl, rfl, trivial⟩⟩
  · try simp only [decide_eq_true_eq, decide_eq_false_iff_not, Bool.not_eq_true', Bool.not_eq_false', Bool.not_eq_eq_eq_not, Bool.not_true, Bool.not_false, beq_iff_eq, bne_iff_ne, ne_eq, beq_eq_false_iff_ne, bne_eq_false_iff_eq, gt_iff_lt, ge_iff_le, Int.not_lt, Int.not_le] at hc12
    have hie : i = cls.length := by omega
    refine c_exit (x_thenX (x_thenX (x_blkX (x_then (hK3 _ _ ?_)))))
    clear hK6 K6 hK3 K3
    refine forget [(3, _)] ⟨rfl, trivial⟩ (fun e => ?_)
    refine c_seq (fun K9 hK9 => ?_)
    refine c_reg ?_ -- region 7 prog.go:159
    refine wl (ro_move rfl) ?_
    refine wl (ro_assign rfl) ?_
    refine wl_nil (x_then (hK9 _ _ ?_))
    clear hK9 K9
    refine c_ret ?_
    refine bp_ret Tryz.results38 rfl ?_
    refine ⟨?_, F1⟩
    rw [hie, List.drop_length] at hinv
    simp at hinv
    rw [← hinv]

theorem Query29 {w : World} {pb : Nat} {text : List UInt8} (ht : text.length ≤ 40) :
    Ret Tryz.prog 29 [ptr pb, S text] w (fun r w' => r = qryV (compS text true) ∧ Fram none' w w') := by
  have hp := parse51 (w := w) ht true
  cases hc : compS text true with
  | none =>
    have hp' : Ret Tryz.prog 51 [S text, .bool true] w (fun v w' => (∃ b, v = .tuple #[.pointer none, .iface 147 (ptr b)]) ∧ Fram none' w w') := hp.mono (by
      rintro v w' ⟨hF, ⟨code, clb, Bs, h1, _⟩ | ⟨_, h2⟩⟩
      · rw [hc] at h1; cases h1
      · exact ⟨h2, hF⟩)
    refine ret_of Tryz.func29 rfl Tryz.ntmps29 rfl ?_
    refine c_seq (fun K1 hK1 => ?_)
    refine c_reg ?_ -- region 0 prog.go:87
    refine wl (ro_assign rfl) ?_
    refine wl (ro_assign rfl) ?_
    refine wl_nil (x_then (hK1 _ _ ?_))
    clear hK1 K1
    refine c_seq (fun K2 hK2 => ?_)
    refine c_seq (fun K3 hK3 => ?_)
    refine c_reg ?_ -- region 1 prog.go:88
    refine wl (ro_move rfl) ?_
    refine wl (ro_lenS rfl st_9) ?_
    refine wl (ro_cmp (r := false) rfl rfl (by simp; omega)) ?_
    refine wl_nil (x_then (hK3 _ _ ?_))
    clear hK3 K3
    refine wc_condF rfl ?_
    refine c_skip (x_then (hK2 _ _ ?_))
    clear hK2 K2
    refine forget [(1, _)] ⟨rfl, trivial⟩ (fun e => ?_)
    refine c_seq (fun K4 hK4 => ?_)
    refine c_reg ?_ -- region 3 prog.go:91
    refine wl (ro_move rfl) ?_
    refine wl_call rfl en_51 (hp') ?_
    rintro _ w1 ⟨⟨b, rfl⟩, F1⟩
    refine wl (ro_move rfl) ?_
    refine wl (ro_extract rfl rfl) ?_
    refine wl (ro_extract rfl rfl) ?_
    refine wl (ro_assign rfl) ?_
    refine wl (ro_assign rfl) ?_
    refine wl_nil (x_then (hK4 _ _ ?_))
    clear hK4 K4
    refine c_seq (fun K5 hK5 => ?_)
    refine c_seq (fun K6 hK6 => ?_)
    refine c_reg ?_ -- region 4 prog.go:92
    refine wl (ro_move rfl) ?_
    refine wl (ro_neqNilI rfl if_106) ?_
    refine wl_nil (x_then (hK6 _ _ ?_))
    clear hK6 K6
    refine wc_condT rfl ?_
    refine c_seq (fun K7 hK7 => ?_)
    refine c_reg ?_ -- region 5 prog.go:93
    refine wl (ro_assign rfl) ?_
    refine wl (ro_assign rfl) ?_
    refine wl_nil (x_then (hK7 _ _ ?_))
    clear hK7 K7
    refine c_ret (x_thenR ?_)
    refine bp_ret Tryz.results29 rfl ?_
    exact ⟨rfl, F1⟩
  | some code =>
    have hcl := (compS_ok hc).2
    have hp' : Ret Tryz.prog 51 [S text, .bool true] w (fun v w' => ∃ clb Bs, v = .tuple #[ptr clb, .nilIface] ∧ ClAt w'.heap clb true text code Bs ∧ Fram none' w w') := hp.mono (by
      rintro v w' ⟨hF, ⟨code', clb, Bs, h1, h2, h3, _⟩ | ⟨h1, _⟩⟩
      · rw [hc] at h1; cases h1
        exact ⟨clb, Bs, h2, h3, hF⟩
      · rw [hc] at h1; cases h1)
    refine ret_of Tryz.func29 rfl Tryz.ntmps29 rfl ?_
    refine c_seq (fun K1 hK1 => ?_)
    refine c_reg ?_ -- region 0 prog.go:87
    refine wl (ro_assign rfl) ?_
    refine wl (ro_assign rfl) ?_
    refine wl_nil (x_then (hK1 _ _ ?_))
    clear hK1 K1
    refine c_seq (fun K2 hK2 => ?_)
    refine c_seq (fun K3 hK3 => ?_)
    refine c_reg ?_ -- region 1 prog.go:88
    refine wl (ro_move rfl) ?_
    refine wl (ro_lenS rfl st_9) ?_
    refine wl (ro_cmp (r := false) rfl rfl (by simp; omega)) ?_
    refine wl_nil (x_then (hK3 _ _ ?_))
    clear hK3 K3
    refine wc_condF rfl ?_
    refine c_skip (x_then (hK2 _ _ ?_))
    clear hK2 K2
    refine forget [(1, _)] ⟨rfl, trivial⟩ (fun e => ?_)
    refine c_seq (fun K4 hK4 => ?_)
    refine c_reg ?_ -- region 3 prog.go:91
    refine wl (ro_move rfl) ?_
    refine wl_call rfl en_51 (hp') ?_
    rintro _ w1 ⟨clb, Bs, rfl, hCl, F1⟩
    refine wl (ro_move rfl) ?_
    refine wl (ro_extract rfl rfl) ?_
    refine wl (ro_extract rfl rfl) ?_
    refine wl (ro_assign rfl) ?_
    refine wl (ro_assign rfl) ?_
    refine wl_nil (x_then (hK4 _ _ ?_))
    clear hK4 K4
    refine c_seq (fun K5 hK5 => ?_)
    refine c_seq (fun K6 hK6 => ?_)
    refine c_reg ?_ -- region 4 prog.go:92
    refine wl (ro_move rfl) ?_
    refine wl (ro_neqNilN rfl if_106) ?_
    refine wl_nil (x_then (hK6 _ _ ?_))
    clear hK6 K6
    refine wc_condF rfl ?_
    refine c_skip (x_then (hK5 _ _ ?_))
    clear hK5 K5
    refine forget [(6, _)] ⟨rfl, trivial⟩ (fun e => ?_)
    refine c_seq (fun K7 hK7 => ?_)
    refine c_reg ?_ -- region 6 prog.go:95
    refine wl (ro_move rfl) ?_
    refine wl_call rfl en_54 (code54 hCl (by omega)) ?_
    rintro _ w2 ⟨rfl, F2⟩
    refine wl (ro_assign rfl) ?_
    refine wl (ro_assign rfl) ?_
    refine wl_nil (x_then (hK7 _ _ ?_))
    clear hK7 K7
    refine c_ret ?_
    refine bp_ret Tryz.results29 rfl ?_
    exact ⟨rfl, F1.trans F2⟩

theorem New15 {w : World} : Ret Tryz.prog 15 [] w (fun r w' => ∃ pb, r = ptr pb ∧ PrX w'.heap pb [] (fun b => w.heap.size ≤ b ∧ b < w'.heap.size) ∧ Fram none' w w') := by
  refine ret_of Tryz.func15 rfl Tryz.ntmps15 rfl ?_
  refine c_seq (fun K1 hK1 => ?_)
  refine c_reg ?_ -- region 0 prog.go:24
  refine wl (ro_assign rfl) ?_
  refine wl_nil (x_then (hK1 _ _ ?_))
  clear hK1 K1
  refine forget [] trivial (fun e => ?_)
  refine c_seq (fun K2 hK2 => ?_)
  refine c_reg ?_ -- region 1 prog.go:25
  refine wle eo_makeMap ?_
  skip
  refine wle eo_makeMap ?_
  skip
  refine wle eo_makeMap ?_
  skip
  refine wl (ro_build rfl bld_74_1_2_3) ?_
  refine wle (eo_box rfl rfl) ?_
  have hN := Blk.new (((w.alloc (.map #[] 0)).alloc (.map #[] 0)).alloc (.map #[] 0)) [.slice none 0 0, .map (some w.heap.size), .map (some (w.heap.size + 1)), .map (some (w.heap.size + 2))] 74
  have hA : MapAt k2c (World.alloc (((w.alloc (.map #[] 0)).alloc (.map #[] 0)).alloc (.map #[] 0)) (.cells [.slice none 0 0, .map (some w.heap.size), .map (some (w.heap.size + 1)), .map (some (w.heap.size + 2))].toArray 74)).heap w.heap.size ([] : List ((UInt8 × UInt8) × Value)) := (((MapAt.new w).fram (Fram.alloc none' _ _) (fun h => h)).fram (Fram.alloc none' _ _) (fun h => h)).fram (Fram.alloc none' _ _) (fun h => h)
  have hO : MapAt k2c (World.alloc (((w.alloc (.map #[] 0)).alloc (.map #[] 0)).alloc (.map #[] 0)) (.cells [.slice none 0 0, .map (some w.heap.size), .map (some (w.heap.size + 1)), .map (some (w.heap.size + 2))].toArray 74)).heap (w.heap.size + 1) ([] : List ((UInt8 × UInt8) × Value)) := by
    have := ((MapAt.new (kv := k2c) (w.alloc (.map #[] 0))).fram (Fram.alloc none' _ (.map #[] 0)) (fun h => h)).fram (Fram.alloc none' _ (.cells [.slice none 0 0, .map (some w.heap.size), .map (some (w.heap.size + 1)), .map (some (w.heap.size + 2))].toArray 74)) (fun h => h)
    simpa using this
  have hK : MapAt k4c (World.alloc (((w.alloc (.map #[] 0)).alloc (.map #[] 0)).alloc (.map #[] 0)) (.cells [.slice none 0 0, .map (some w.heap.size), .map (some (w.heap.size + 1)), .map (some (w.heap.size + 2))].toArray 74)).heap (w.heap.size + 2) ([] : List (((UInt8 × UInt8) × (UInt8 × UInt8)) × Value)) := by
    have := (MapAt.new (kv := k4c) ((w.alloc (.map #[] 0)).alloc (.map #[] 0))).fram (Fram.alloc none' _ (.cells [.slice none 0 0, .map (some w.heap.size), .map (some (w.heap.size + 1)), .map (some (w.heap.size + 2))].toArray 74)) (fun h => h)
    simpa using this
  refine wl (ro_assign rfl) ?_
  refine wl_nil (x_then (hK2 _ _ ?_))
  clear hK2 K2
  refine c_ret ?_
  refine bp_ret Tryz.results15 rfl ?_
  refine ⟨w.heap.size + 3, ?_, ⟨.slice none 0 0, [], [w.heap.size, w.heap.size + 1, w.heap.size + 2], [], [], [], ⟨⟨_, _, _, rfl, by omega, by omega, by omega⟩, ?_, Own.nil _ _ _, rfl, by simp, ?_, ?_, ?_, by simp, by simp, by simp, ⟨by simp, by simp⟩, fun _ _ => rfl, fun _ _ => rfl, by simp, by simp, (fun b hb => by cases hb), (by intro r hr; simp at hr ⊢; omega), by simp⟩⟩, ?_⟩
  · simp [ptr]
  · simpa using hN
  · simpa using hA
  · simpa using hO
  · simpa using hK
  · exact (((Fram.alloc none' w _).trans (Fram.alloc none' _ _)).trans (Fram.alloc none' _ _)).trans (Fram.alloc none' _ _)

end Go.Proofs.Qxb6500569aGreat
