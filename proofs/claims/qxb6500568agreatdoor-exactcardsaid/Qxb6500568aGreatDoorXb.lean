import Derived.Test.Qxb6500568aGreatDoorXa
/- The model's scanner: one token. -/
namespace Go.Proofs.Qxb6500568aGreatDoor
open Ieee
set_option linter.unusedVariables false
set_option linter.unusedSimpArgs false

/-- A token as the model lays it. -/
def mK (t : Tok) : Nat := if t.k = 0 then 0 else if t.k = 1 then 5 else if t.k = 2 then 1 else if t.k = 3 then 2 else if t.k = 4 then 3 else 4
def mS (t : Tok) : Str := if t.k = 2 ∨ t.k = 4 then t.s else if t.k < 5 then [] else if t.k < 24 then kwL.getD (t.k - 5) [] else sgL.getD (t.k - 24) []
def mN (t : Tok) : Nat := if t.k = 3 then t.n else 0
def mE (t : Tok) : Nat := if t.k = 1 then t.e else 0
def mpc (np : Value) (src : Str) (pos : Nat) (t : Tok) (x1 x2 x3 x4 x5 x6 : Value) : List Value := [np, S src, i64c pos, i64c (mK t), S (mS t), u64c (mN t), i64c t.pl, i64c (mE t), x1, x2, x3, x4, x5, x6]
theorem posS_get {w : Str} {l : List Str} {i : Nat} (h : posS w l = some i) : l.getD i [] = w ∧ i < l.length := by
  obtain ⟨x, h1, h2⟩ := posP_some h
  have h2 : x = w := by simpa using h2
  exact ⟨by rw [List.getD_eq_getElem?_getD, h1, h2]; rfl, (List.getElem?_eq_some_iff.1 h1).1⟩
/-- The next token was read. -/
def Nxt (w w' : World) (mp : Nat) (np : Value) (src : Str) (pos : Nat) (x1 x2 x3 x4 x5 x6 : Value) : Prop :=
  Fram (one mp) w w' ∧ ∃ pos' t, Blk w'.heap mp (mpc np src pos' t x1 x2 x3 x4 x5 x6) 146 ∧ pos' ≤ src.length ∧ (∃ r, tkF src pos = t :: r) ∧ (1 < t.k → tkF src pos = t :: tkF src pos')
theorem twoC_iff (c d : UInt8) : twoC c d = true ↔ [c, d] = [61, 61] ∨ [c, d] = [126, 61] ∨ [c, d] = [60, 61] ∨ [c, d] = [62, 61] ∨ [c, d] = [46, 46] ∨ [c, d] = [47, 47] := by
  unfold twoC
  simp
  constructor
  · intro h
    rcases h with ((((h | h) | h) | h) | h) | h
    · exact .inl h
    · exact .inr (.inl h)
    · exact .inr (.inr (.inl h))
    · exact .inr (.inr (.inr (.inl h)))
    · exact .inr (.inr (.inr (.inr (.inl h))))
    · exact .inr (.inr (.inr (.inr (.inr h))))
  · intro h
    rcases h with h | h | h | h | h | h
    · exact .inl (.inl (.inl (.inl (.inl h))))
    · exact .inl (.inl (.inl (.inl (.inr h))))
    · exact .inl (.inl (.inl (.inr h)))
    · exact .inl (.inl (.inr h))
    · exact .inl (.inr h)
    · exact .inr h
theorem mpc_of {np : Value} {src : Str} {pos : Nat} {t : Tok} {x1 x2 x3 x4 x5 x6 : Value} {K n e : Nat} {z : Str} (h1 : mK t = K) (h2 : mS t = z) (h3 : mN t = n) (h4 : mE t = e) : mpc np src pos t x1 x2 x3 x4 x5 x6 = [np, S src, i64c pos, i64c K, S z, u64c n, i64c t.pl, i64c e, x1, x2, x3, x4, x5, x6] := by
  unfold mpc; rw [h1, h2, h3, h4]
theorem nx_ok {src : Str} {pos q n pos' : Nat} {t : Tok} {A : Tok × Nat} (htk : tkF src pos = tkF src q) (hT : tkF src q = if A.1.k = 1 then [A.1] else A.1 :: tkF src (q + A.2)) (hA : A = (t, n)) (hp : 1 < t.k → q + n = pos') : (∃ r, tkF src pos = t :: r) ∧ (1 < t.k → tkF src pos = t :: tkF src pos') := by
  subst hA
  rw [htk, hT]
  by_cases h : t.k = 1
  · rw [if_pos h]
    exact ⟨⟨[], rfl⟩, fun h2 => by omega⟩
  · rw [if_neg h]
    exact ⟨⟨_, rfl⟩, fun h2 => by rw [← hp h2]⟩
theorem kw_tok {w : Str} {i q : Nat} (h : posS w kwL = some i) : mK ⟨5 + i, q, w, 0, 0⟩ = 4 ∧ mS ⟨5 + i, q, w, 0, 0⟩ = w ∧ mN ⟨5 + i, q, w, 0, 0⟩ = 0 ∧ mE ⟨5 + i, q, w, 0, 0⟩ = 0 := by
  obtain ⟨h1, h2⟩ := posS_get h
  have h2 : i < 19 := h2
  unfold mK mS mN mE
  simp only
  rw [if_neg (by omega), if_neg (by omega), if_neg (by omega), if_neg (by omega), if_neg (by omega), if_neg (by omega), if_neg (by omega), if_pos (by omega), if_neg (by omega), if_neg (by omega), Nat.add_sub_cancel_left, h1]
  exact ⟨rfl, rfl, rfl, rfl⟩
theorem sg_tok {w : Str} {i q : Nat} (h : posS w sgL = some i) : mK ⟨24 + i, q, [], 0, 0⟩ = 4 ∧ mS ⟨24 + i, q, [], 0, 0⟩ = w ∧ mN ⟨24 + i, q, [], 0, 0⟩ = 0 ∧ mE ⟨24 + i, q, [], 0, 0⟩ = 0 := by
  obtain ⟨h1, h2⟩ := posS_get h
  unfold mK mS mN mE
  simp only
  rw [if_neg (by omega), if_neg (by omega), if_neg (by omega), if_neg (by omega), if_neg (by omega), if_neg (by omega), if_neg (by omega), if_neg (by omega), if_neg (by omega), if_neg (by omega), Nat.add_sub_cancel_left, h1]
  exact ⟨rfl, rfl, rfl, rfl⟩
section
variable {s : Str} {i : Nat}
theorem numE_a (h1 : s[twk isDig s i]? = some 46) (h2 : dgA s (twk isDig s i + 1) = true) : numE s i = twk isDig s (twk isDig s i + 1) := by
  unfold numE; rw [h1]; simp only; rw [if_pos ⟨.inl trivial, h2⟩]
theorem powB_iff {j : Nat} : powB s j = true ↔ s[j]? = some 112 ∧ (dgA s (j + 1) = true ∨ (s[j + 1]? = some 45 ∧ dgA s (j + 2) = true)) := by
  unfold powB; simp
theorem numE_p (h : powB s (twk isDig s i) = true) : numE s i = twk isDig s (twk isDig s i + 2) := by
  obtain ⟨h1, h2⟩ := powB_iff.1 h
  unfold numE; rw [h1]; simp only
  by_cases hd : dgA s (twk isDig s i + 1) = true
  · rw [if_pos ⟨.inr trivial, hd⟩]
    obtain ⟨c, hc⟩ : ∃ c, s[twk isDig s i + 1]? = some c := ⟨_, List.getElem?_eq_getElem (dgA_lt hd)⟩
    rw [dgA_at hc] at hd
    exact (twk_step hc hd).symm
  · rcases h2 with h2 | h2
    · exact absurd h2 hd
    · rw [if_neg (fun q => hd q.2), if_pos ⟨trivial, h2⟩]
theorem numE_n (hno : ¬ (s[twk isDig s i]? = some 46 ∧ dgA s (twk isDig s i + 1) = true)) (h : powB s (twk isDig s i) = false) : numE s i = twk isDig s i := by
  have hp : ¬ (s[twk isDig s i]? = some 112 ∧ (dgA s (twk isDig s i + 1) = true ∨ (s[twk isDig s i + 1]? = some 45 ∧ dgA s (twk isDig s i + 2) = true))) := fun q => by rw [powB_iff.2 q] at h; cases h
  unfold numE
  cases hc : s[twk isDig s i]? with
  | none => rfl
  | some c =>
    rw [hc] at hno hp
    simp only
    rw [if_neg, if_neg]
    · rintro ⟨rfl, q⟩; exact hp ⟨rfl, .inr q⟩
    · rintro ⟨rfl | rfl, q⟩
      · exact hno ⟨rfl, q⟩
      · exact hp ⟨rfl, .inl q⟩
theorem powB_le {j : Nat} (h : powB s j = true) : j + 2 ≤ s.length := by
  obtain ⟨h1, h2⟩ := powB_iff.1 h
  rcases h2 with h2 | ⟨h2, h3⟩
  · have := dgA_lt h2; omega
  · have := dgA_lt h3; omega
end
theorem ro_slice2 {P : Program} {n : Nat} {e : Nat → Option Value} {w : World} {x y z : Operand} {s : Str} {q h : Nat} {lo hi : Int} {l : Str} {t : TypeId} (hx : evO n e x = some (S s)) (hy : evO n e y = some (.int .i64 lo)) (hz : evO n e z = some (.int .i64 hi)) (ht : strB P t = true) (hlo : lo = q) (hhi : hi = h) (hqh : q ≤ h) (hl : h ≤ s.length) (h2 : (s.drop q).take (h - q) = l) : RO P n e w (.slice t x (some y) (some z) none) (S l) := by
  rw [← h2]
  exact ro_sliceSLH (l := q) (h := h) hx hy hz ht hlo hhi hqh hl
set_option maxHeartbeats 16000000 in
theorem next48 {w : World} {mp pos : Nat} {np : Value} {src : Str} {k1 k2 k3 k4 k5 x1 x2 x3 x4 x5 x6 : Value} (hX : Blk w.heap mp [np, S src, i64c pos, k1, k2, k3, k4, k5, x1, x2, x3, x4, x5, x6] 146) (hp : pos ≤ src.length) (hs : src.length ≤ 2048) :
    Ret Tryz.prog 48 [ptr mp] w (fun r w' => r = .tuple #[] ∧ Nxt w w' mp np src pos x1 x2 x3 x4 x5 x6) := by
  have hF : Fram (one mp) w w := Fram.refl _ _
  have hmp : one mp mp := rfl
  refine ret_of Tryz.func48 rfl Tryz.ntmps48 rfl ?_
  refine c_seq (fun K1 hK1 => ?_)
  refine c_reg ?_ -- region 0 syntaxm.go:75
  refine wl (ro_move rfl) ?_
  refine wl (ro_nilCheck rfl) ?_
  refine wl (ro_fieldAddr (k := 1) rfl fo_146_1) ?_
  refine wl (ro_loadB rfl sc_9 (by assumption) rfl) ?_
  refine wl (ro_assign rfl) ?_
  refine wl_nil (x_then (hK1 _ _ ?_))
  clear hK1 K1
  refine forget [(0, _), (2, _)] ⟨rfl, rfl, trivial⟩ (fun e => ?_)
  refine c_mid (fun a' w' => ∃ q, q ≤ src.length ∧ tkF src pos = tkF src q ∧ Blk w'.heap mp [np, S src, i64c q, k1, k2, k3, k4, k5, x1, x2, x3, x4, x5, x6] 146 ∧ Fram (one mp) w w' ∧ (∀ c, src[q]? = some c → isSp c = false ∧ ¬ (c = 45 ∧ src[q + 1]? = some 45)) ∧ ∃ e, a' = Fr 385 (upds e [(0, ptr mp), (2, S src)]) []) ?_ ?_
  · skip
    refine c_block ?_
    -- loop@r1: live slots [0, 2]
    refine c_loopG (fun n a' w' => ∃ q, n = src.length - q ∧ q ≤ src.length ∧ tkF src pos = tkF src q ∧ Blk w'.heap mp [np, S src, i64c q, k1, k2, k3, k4, k5, x1, x2, x3, x4, x5, x6] 146 ∧ Fram (one mp) w w' ∧ ∃ e, a' = Fr 385 (upds e [(0, ptr mp), (2, S src)]) []) (src.length - pos) ⟨pos, rfl, hp, rfl, hX, hF, kp _ ⟨rfl, rfl, trivial⟩⟩ ?_
    clear hF hX
    rintro n a' u1 ⟨q, rfl, hq, htk, hX, hF, e, rfl⟩
    refine c_seq (fun K2 hK2 => ?_)
    refine c_seq (fun K3 hK3 => ?_)
    refine c_reg ?_ -- region 1 syntaxm.go:76
    refine wl (ro_move rfl) ?_
    refine wl (ro_nilCheck rfl) ?_
    refine wl (ro_fieldAddr (k := 2) rfl fo_146_2) ?_
    refine wl (ro_loadB rfl sc_3 (by assumption) rfl) ?_
    refine wl (ro_move rfl) ?_
    refine wl (ro_lenS rfl st_9) ?_
    refine wl (ro_cmp rfl rfl rfl) ?_
    refine wl_nil (x_then (hK3 _ _ ?_))
    clear hK3 K3
    refine wc_cond rfl (fun hc20 => ?_) (fun hc20 => ?_)
    · try simp only [decide_eq_true_eq, decide_eq_false_iff_not, Bool.not_eq_true', Bool.not_eq_false', Bool.not_eq_eq_eq_not, Bool.not_true, Bool.not_false, beq_iff_eq, bne_iff_ne, ne_eq, beq_eq_false_iff_ne, bne_eq_false_iff_eq, gt_iff_lt, ge_iff_le, Int.not_lt, Int.not_le] at hc20
      refine c_skip (x_then (hK2 _ _ ?_))
      clear hK2 K2
      refine c_block ?_
      refine forget [(0, _), (2, _)] ⟨rfl, rfl, trivial⟩ (fun e => ?_)
      refine c_seq (fun K4 hK4 => ?_)
      obtain ⟨c, hc⟩ : ∃ c, src[q]? = some c := ⟨_, List.getElem?_eq_getElem (by omega)⟩
      have hsp5 : c = 32 ∨ c = 9 ∨ c = 10 ∨ c = 13 ∨ ((c.toNat : Int) ≠ 32 ∧ (c.toNat : Int) ≠ 9 ∧ (c.toNat : Int) ≠ 10 ∧ (c.toNat : Int) ≠ 13) := by
        have e1 := u8_beq c 32 (by decide)
        have e2 := u8_beq c 9 (by decide)
        have e3 := u8_beq c 10 (by decide)
        have e4 := u8_beq c 13 (by decide)
        by_cases q1 : c = 32
        · exact .inl q1
        · by_cases q2 : c = 9
          · exact .inr (.inl q2)
          · by_cases q3 : c = 10
            · exact .inr (.inr (.inl q3))
            · by_cases q4 : c = 13
              · exact .inr (.inr (.inr (.inl q4)))
              · exact .inr (.inr (.inr (.inr ⟨fun h => q1 (e1.2 h), fun h => q2 (e2.2 h), fun h => q3 (e3.2 h), fun h => q4 (e4.2 h)⟩)))
      refine c_reg ?_ -- region 2 syntaxm.go:77
      refine wl (ro_move rfl) ?_
      refine wl (ro_move rfl) ?_
      refine wl (ro_nilCheck rfl) ?_
      refine wl (ro_fieldAddr (k := 2) rfl fo_146_2) ?_
      refine wl (ro_loadB rfl sc_3 (by assumption) rfl) ?_
      refine wl (ro_indexS rfl rfl st_9 rfl (hc)) ?_
      refine wl (ro_assign rfl) ?_
      refine wl_nil (x_then (hK4 _ _ ?_))
      clear hK4 K4
      refine forget [(0, _), (2, _), (3, _)] ⟨rfl, rfl, rfl, trivial⟩ (fun e => ?_)
      refine c_seq (fun K5 hK5 => ?_)
      rcases hsp5 with rfl | rfl | rfl | rfl | ⟨g1, g2, g3, g4⟩
      · skip
        refine c_reg ?_ -- region 3 syntaxm.go:78
        refine wl (ro_move rfl) ?_
        refine wl (ro_cmp rfl rfl rfl) ?_
        refine wl (ro_move rfl) ?_
        refine wlg_no rfl ?_
        refine wlg_no rfl ?_
        refine wl (ro_pick rfl rfl rfl) ?_
        refine wl (ro_move rfl) ?_
        refine wlg_no rfl ?_
        refine wlg_no rfl ?_
        refine wl (ro_pick rfl rfl rfl) ?_
        refine wl (ro_move rfl) ?_
        refine wlg_no rfl ?_
        refine wlg_no rfl ?_
        refine wl (ro_pick rfl rfl rfl) ?_
        refine wl_nil (x_then (hK5 _ _ ?_))
        clear hK5 K5
        refine wc_condT rfl ?_
        refine c_reg ?_ -- region 4 syntaxm.go:79
        refine wl (ro_move rfl) ?_
        refine wl (ro_nilCheck rfl) ?_
        refine wl (ro_fieldAddr (k := 2) rfl fo_146_2) ?_
        refine wl (ro_loadB rfl sc_3 (by assumption) rfl) ?_
        refine wl (ro_arith rfl rfl rfl (Go.IntWalk.i64_in _ (by omega))) ?_
        refine wl (ro_nilCheck rfl) ?_
        refine wl (ro_fieldAddr (k := 2) rfl fo_146_2) ?_
        refine wl_put rfl rfl rfl sz_3 hX (by simp) (rfl) (fun w1 hX F1 => ?_)
        replace hF := hF.thenDrew.thenO F1 (by first | exact .inr (by omega) | exact .inl rfl | exact .inl (by assumption) | assumption)
        refine wl_nil (x_blk (x_then ?_))
        exact ⟨src.length - (q + 1), by omega, q + 1, rfl, by omega, by rw [htk]; exact tkF_sp hc (by rfl), hX, hF, kp _ ⟨rfl, rfl, trivial⟩⟩
      · skip
        refine c_reg ?_ -- region 3 syntaxm.go:78
        refine wl (ro_move rfl) ?_
        refine wl (ro_cmp rfl rfl rfl) ?_
        refine wl (ro_move rfl) ?_
        refine wlg_yes rfl (ro_move rfl) ?_
        refine wlg_yes rfl (ro_cmp rfl rfl rfl) ?_
        refine wl (ro_pick rfl rfl rfl) ?_
        refine wl (ro_move rfl) ?_
        refine wlg_no rfl ?_
        refine wlg_no rfl ?_
        refine wl (ro_pick rfl rfl rfl) ?_
        refine wl (ro_move rfl) ?_
        refine wlg_no rfl ?_
        refine wlg_no rfl ?_
        refine wl (ro_pick rfl rfl rfl) ?_
        refine wl_nil (x_then (hK5 _ _ ?_))
        clear hK5 K5
        refine wc_condT rfl ?_
        refine c_reg ?_ -- region 4 syntaxm.go:79
        refine wl (ro_move rfl) ?_
        refine wl (ro_nilCheck rfl) ?_
        refine wl (ro_fieldAddr (k := 2) rfl fo_146_2) ?_
        refine wl (ro_loadB rfl sc_3 (by assumption) rfl) ?_
        refine wl (ro_arith rfl rfl rfl (Go.IntWalk.i64_in _ (by omega))) ?_
        refine wl (ro_nilCheck rfl) ?_
        refine wl (ro_fieldAddr (k := 2) rfl fo_146_2) ?_
        refine wl_put rfl rfl rfl sz_3 hX (by simp) (rfl) (fun w2 hX F2 => ?_)
        replace hF := hF.thenDrew.thenO F2 (by first | exact .inr (by omega) | exact .inl rfl | exact .inl (by assumption) | assumption)
        refine wl_nil (x_blk (x_then ?_))
        exact ⟨src.length - (q + 1), by omega, q + 1, rfl, by omega, by rw [htk]; exact tkF_sp hc (by rfl), hX, hF, kp _ ⟨rfl, rfl, trivial⟩⟩
      · skip
        refine c_reg ?_ -- region 3 syntaxm.go:78
        refine wl (ro_move rfl) ?_
        refine wl (ro_cmp rfl rfl rfl) ?_
        refine wl (ro_move rfl) ?_
        refine wlg_yes rfl (ro_move rfl) ?_
        refine wlg_yes rfl (ro_cmp rfl rfl rfl) ?_
        refine wl (ro_pick rfl rfl rfl) ?_
        refine wl (ro_move rfl) ?_
        refine wlg_yes rfl (ro_move rfl) ?_
        refine wlg_yes rfl (ro_cmp rfl rfl rfl) ?_
        refine wl (ro_pick rfl rfl rfl) ?_
        refine wl (ro_move rfl) ?_
        refine wlg_no rfl ?_
        refine wlg_no rfl ?_
        refine wl (ro_pick rfl rfl rfl) ?_
        refine wl_nil (x_then (hK5 _ _ ?_))
        clear hK5 K5
        refine wc_condT rfl ?_
        refine c_reg ?_ -- region 4 syntaxm.go:79
        refine wl (ro_move rfl) ?_
        refine wl (ro_nilCheck rfl) ?_
        refine wl (ro_fieldAddr (k := 2) rfl fo_146_2) ?_
        refine wl (ro_loadB rfl sc_3 (by assumption) rfl) ?_
        refine wl (ro_arith rfl rfl rfl (Go.IntWalk.i64_in _ (by omega))) ?_
        refine wl (ro_nilCheck rfl) ?_
        refine wl (ro_fieldAddr (k := 2) rfl fo_146_2) ?_
        refine wl_put rfl rfl rfl sz_3 hX (by simp) (rfl) (fun w3 hX F3 => ?_)
        replace hF := hF.thenDrew.thenO F3 (by first | exact .inr (by omega) | exact .inl rfl | exact .inl (by assumption) | assumption)
        refine wl_nil (x_blk (x_then ?_))
        exact ⟨src.length - (q + 1), by omega, q + 1, rfl, by omega, by rw [htk]; exact tkF_sp hc (by rfl), hX, hF, kp _ ⟨rfl, rfl, trivial⟩⟩
      · skip
        refine c_reg ?_ -- region 3 syntaxm.go:78
        refine wl (ro_move rfl) ?_
        refine wl (ro_cmp rfl rfl rfl) ?_
        refine wl (ro_move rfl) ?_
        refine wlg_yes rfl (ro_move rfl) ?_
        refine wlg_yes rfl (ro_cmp rfl rfl rfl) ?_
        refine wl (ro_pick rfl rfl rfl) ?_
        refine wl (ro_move rfl) ?_
        refine wlg_yes rfl (ro_move rfl) ?_
        refine wlg_yes rfl (ro_cmp rfl rfl rfl) ?_
        refine wl (ro_pick rfl rfl rfl) ?_
        refine wl (ro_move rfl) ?_
        refine wlg_yes rfl (ro_move rfl) ?_
        refine wlg_yes rfl (ro_cmp rfl rfl rfl) ?_
        refine wl (ro_pick rfl rfl rfl) ?_
        refine wl_nil (x_then (hK5 _ _ ?_))
        clear hK5 K5
        refine wc_condT rfl ?_
        refine c_reg ?_ -- region 4 syntaxm.go:79
        refine wl (ro_move rfl) ?_
        refine wl (ro_nilCheck rfl) ?_
        refine wl (ro_fieldAddr (k := 2) rfl fo_146_2) ?_
        refine wl (ro_loadB rfl sc_3 (by assumption) rfl) ?_
        refine wl (ro_arith rfl rfl rfl (Go.IntWalk.i64_in _ (by omega))) ?_
        refine wl (ro_nilCheck rfl) ?_
        refine wl (ro_fieldAddr (k := 2) rfl fo_146_2) ?_
        refine wl_put rfl rfl rfl sz_3 hX (by simp) (rfl) (fun w4 hX F4 => ?_)
        replace hF := hF.thenDrew.thenO F4 (by first | exact .inr (by omega) | exact .inl rfl | exact .inl (by assumption) | assumption)
        refine wl_nil (x_blk (x_then ?_))
        exact ⟨src.length - (q + 1), by omega, q + 1, rfl, by omega, by rw [htk]; exact tkF_sp hc (by rfl), hX, hF, kp _ ⟨rfl, rfl, trivial⟩⟩
      · skip
        have hsp : isSp c = false := Bool.eq_false_iff.2 (fun h => by have := (isSp_iff c).1 h; omega)
        have h4 : (c = 45 ∧ src[q + 1]? = some 45 ∧ q + 1 < src.length) ∨ (c = 45 ∧ (∃ d, src[q + 1]? = some d ∧ (d.toNat : Int) ≠ 45) ∧ q + 1 < src.length) ∨ (c = 45 ∧ ¬ q + 1 < src.length) ∨ ((c.toNat : Int) ≠ 45 ∧ c ≠ 45) := by
          by_cases q1 : c = 45
          · by_cases q2 : q + 1 < src.length
            · obtain ⟨d, hd⟩ : ∃ d, src[q + 1]? = some d := ⟨_, List.getElem?_eq_getElem q2⟩
              by_cases q3 : d = 45
              · exact .inl ⟨q1, by rw [hd, q3], q2⟩
              · exact .inr (.inl ⟨q1, ⟨d, hd, fun h => q3 ((u8_beq d 45 (by decide)).2 h)⟩, q2⟩)
            · exact .inr (.inr (.inl ⟨q1, q2⟩))
          · exact .inr (.inr (.inr ⟨fun h => q1 ((u8_beq c 45 (by decide)).2 h), q1⟩))
        refine c_reg ?_ -- region 3 syntaxm.go:78
        refine wl (ro_move rfl) ?_
        refine wl (ro_cmp (r := false) rfl rfl (congrArg some (beq_eq_false_iff_ne.2 g1))) ?_
        refine wl (ro_move rfl) ?_
        refine wlg_yes rfl (ro_move rfl) ?_
        refine wlg_yes rfl (ro_cmp (r := false) rfl rfl (congrArg some (beq_eq_false_iff_ne.2 g2))) ?_
        refine wl (ro_pick rfl rfl rfl) ?_
        refine wl (ro_move rfl) ?_
        refine wlg_yes rfl (ro_move rfl) ?_
        refine wlg_yes rfl (ro_cmp (r := false) rfl rfl (congrArg some (beq_eq_false_iff_ne.2 g3))) ?_
        refine wl (ro_pick rfl rfl rfl) ?_
        refine wl (ro_move rfl) ?_
        refine wlg_yes rfl (ro_move rfl) ?_
        refine wlg_yes rfl (ro_cmp (r := false) rfl rfl (congrArg some (beq_eq_false_iff_ne.2 g4))) ?_
        refine wl (ro_pick rfl rfl rfl) ?_
        refine wl_nil (x_then (hK5 _ _ ?_))
        clear hK5 K5
        refine wc_condF rfl ?_
        refine c_seq (fun K6 hK6 => ?_)
        rcases h4 with ⟨rfl, hd45, hlt⟩ | ⟨rfl, ⟨d, hd, hdn⟩, hlt⟩ | ⟨rfl, hlt⟩ | ⟨hn45, hn45'⟩
        · skip
          refine c_reg ?_ -- region 5 syntaxm.go:80
          refine wl (ro_move rfl) ?_
          refine wl (ro_cmp rfl rfl rfl) ?_
          refine wl (ro_move rfl) ?_
          refine wlg_yes rfl (ro_move rfl) ?_
          refine wlg_yes rfl (ro_nilCheck rfl) ?_
          refine wlg_yes rfl (ro_fieldAddr (k := 2) rfl fo_146_2) ?_
          refine wlg_yes rfl (ro_loadB rfl sc_3 (by assumption) rfl) ?_
          refine wlg_yes rfl (ro_arith rfl rfl rfl (Go.IntWalk.i64_in _ (by omega))) ?_
          refine wlg_yes rfl (ro_move rfl) ?_
          refine wlg_yes rfl (ro_lenS rfl st_9) ?_
          refine wlg_yes rfl (ro_cmp (r := true) rfl rfl (congrArg some (decide_eq_true (by omega)))) ?_
          refine wl (ro_pick rfl rfl rfl) ?_
          refine wl (ro_move rfl) ?_
          refine wlg_yes rfl (ro_move rfl) ?_
          refine wlg_yes rfl (ro_move rfl) ?_
          refine wlg_yes rfl (ro_nilCheck rfl) ?_
          refine wlg_yes rfl (ro_fieldAddr (k := 2) rfl fo_146_2) ?_
          refine wlg_yes rfl (ro_loadB rfl sc_3 (by assumption) rfl) ?_
          refine wlg_yes rfl (ro_arith rfl rfl rfl (Go.IntWalk.i64_in _ (by omega))) ?_
          refine wlg_yes rfl (ro_indexS rfl rfl st_9 rfl (hd45)) ?_
          refine wlg_yes rfl (ro_cmp rfl rfl rfl) ?_
          refine wl (ro_pick rfl rfl rfl) ?_
          refine wl_nil (x_then (hK6 _ _ ?_))
          clear hK6 K6
          refine wc_condT rfl ?_
          refine c_block ?_
          -- loop@r6: live slots [0, 2, 30, 31, 34, 35, 38, 39, 51, 52, 53, 54, 55, 56, 57, 58, 61, 62, 63, 64, 65, 66, 67, 68]
          refine c_loopG (fun n a' w' => ∃ j, n = src.length - j ∧ q ≤ j ∧ j ≤ src.length ∧ twk (notQ 10) src j = twk (notQ 10) src q ∧ Blk w'.heap mp [np, S src, i64c j, k1, k2, k3, k4, k5, x1, x2, x3, x4, x5, x6] 146 ∧ Fram (one mp) w w' ∧ ∃ e, a' = Fr 385 (upds e [(0, ptr mp), (2, S src)]) []) (src.length - q) ⟨q, rfl, Nat.le_refl _, hq, rfl, hX, hF, kp _ ⟨rfl, rfl, trivial⟩⟩ ?_
          clear hF hX
          rintro n a' u2 ⟨j, rfl, hqj, hj, hjt, hX, hF, e, rfl⟩
          have hprog : ∀ {i : Nat}, twk (notQ 10) src q = i → q + 1 ≤ i := fun {i} h => by
            rw [← h, ← twk_step (p := notQ 10) hc (by rfl)]
            exact (twk_le (p := notQ 10) (s := src) (i := q + 1) (by omega)).1
          refine c_seq (fun K7 hK7 => ?_)
          refine c_seq (fun K8 hK8 => ?_)
          refine c_reg ?_ -- region 6 syntaxm.go:81
          refine wl (ro_move rfl) ?_
          refine wl (ro_nilCheck rfl) ?_
          refine wl (ro_fieldAddr (k := 2) rfl fo_146_2) ?_
          refine wl (ro_loadB rfl sc_3 (by assumption) rfl) ?_
          refine wl (ro_move rfl) ?_
          refine wl (ro_lenS rfl st_9) ?_
          refine wl (ro_cmp rfl rfl rfl) ?_
          refine wl_fork rfl (fun hg77 => ?_) (fun hg77 => ?_)
          · try simp only [decide_eq_true_eq, decide_eq_false_iff_not, Bool.not_eq_true', Bool.not_eq_false', Bool.not_eq_eq_eq_not, Bool.not_true, Bool.not_false, beq_iff_eq, bne_iff_ne, ne_eq, beq_eq_false_iff_ne, bne_eq_false_iff_eq, gt_iff_lt, ge_iff_le, Int.not_lt, Int.not_le] at hg77
            obtain ⟨c2, hc2⟩ : ∃ c2, src[j]? = some c2 := ⟨_, List.getElem?_eq_getElem (by omega)⟩
            refine wlg_yes rfl (ro_move rfl) ?_
            refine wlg_yes rfl (ro_move rfl) ?_
            refine wlg_yes rfl (ro_nilCheck rfl) ?_
            refine wlg_yes rfl (ro_fieldAddr (k := 2) rfl fo_146_2) ?_
            refine wlg_yes rfl (ro_loadB rfl sc_3 (by assumption) rfl) ?_
            refine wlg_yes rfl (ro_indexS rfl rfl st_9 rfl (hc2)) ?_
            refine wlg_yes rfl (ro_cmp rfl rfl rfl) ?_
            refine wl (ro_pick rfl rfl rfl) ?_
            refine wl_nil (x_then (hK8 _ _ ?_))
            clear hK8 K8
            refine wc_cond rfl (fun hc85 => ?_) (fun hc85 => ?_)
            · try simp only [decide_eq_true_eq, decide_eq_false_iff_not, Bool.not_eq_true', Bool.not_eq_false', Bool.not_eq_eq_eq_not, Bool.not_true, Bool.not_false, beq_iff_eq, bne_iff_ne, ne_eq, beq_eq_false_iff_ne, bne_eq_false_iff_eq, gt_iff_lt, ge_iff_le, Int.not_lt, Int.not_le] at hc85
              refine c_skip (x_then (hK7 _ _ ?_))
              clear hK7 K7
              refine c_block ?_
              refine c_reg ?_ -- region 7 syntaxm.go:82
              refine wl (ro_move rfl) ?_
              refine wl (ro_nilCheck rfl) ?_
              refine wl (ro_fieldAddr (k := 2) rfl fo_146_2) ?_
              refine wl (ro_loadB rfl sc_3 (by assumption) rfl) ?_
              refine wl (ro_arith rfl rfl rfl (Go.IntWalk.i64_in _ (by omega))) ?_
              refine wl (ro_nilCheck rfl) ?_
              refine wl (ro_fieldAddr (k := 2) rfl fo_146_2) ?_
              refine wl_put rfl rfl rfl sz_3 hX (by simp) (rfl) (fun w5 hX F5 => ?_)
              replace hF := hF.thenDrew.thenO F5 (by first | exact .inr (by omega) | exact .inl rfl | exact .inl (by assumption) | assumption)
              refine wl_nil (x_blk (x_then ?_))
              refine ⟨src.length - (j + 1), by omega, j + 1, rfl, by omega, by omega, ?_, hX, hF, kp _ ⟨rfl, rfl, trivial⟩⟩
              rw [twk_step hc2 ?_]
              · exact hjt
              · unfold notQ
                have h2 : c2 ≠ 10 := fun h => hc85 (by rw [h]; rfl)
                simp [h2]
            · try simp only [decide_eq_true_eq, decide_eq_false_iff_not, Bool.not_eq_true', Bool.not_eq_false', Bool.not_eq_eq_eq_not, Bool.not_true, Bool.not_false, beq_iff_eq, bne_iff_ne, ne_eq, beq_eq_false_iff_ne, bne_eq_false_iff_eq, gt_iff_lt, ge_iff_le, Int.not_lt, Int.not_le] at hc85
              refine c_exit (x_thenX (x_thenX (x_blkX (x_blk (x_then ?_)))))
              have hjj : twk (notQ 10) src j = j := by
                first
                | exact twk_end (by omega)
                | (refine twk_stop hc2 ?_
                   unfold notQ
                   have h2 : c2 = 10 := (u8_beq c2 10 (by decide)).2 (by omega)
                   simp [h2])
              have h9 := hprog (i := j) (by rw [← hjt]; exact hjj)
              exact ⟨src.length - j, by omega, j, rfl, hj, by rw [htk, tkF_cm hc hd45, ← hjt, hjj], hX, hF, kp _ ⟨rfl, rfl, trivial⟩⟩
          · try simp only [decide_eq_true_eq, decide_eq_false_iff_not, Bool.not_eq_true', Bool.not_eq_false', Bool.not_eq_eq_eq_not, Bool.not_true, Bool.not_false, beq_iff_eq, bne_iff_ne, ne_eq, beq_eq_false_iff_ne, bne_eq_false_iff_eq, gt_iff_lt, ge_iff_le, Int.not_lt, Int.not_le] at hg77
            refine wlg_no rfl ?_
            refine wlg_no rfl ?_
            refine wlg_no rfl ?_
            refine wlg_no rfl ?_
            refine wlg_no rfl ?_
            refine wlg_no rfl ?_
            refine wlg_no rfl ?_
            refine wl (ro_pick rfl rfl rfl) ?_
            refine wl_nil (x_then (hK8 _ _ ?_))
            clear hK8 K8
            refine wc_condF rfl ?_
            refine c_exit (x_thenX (x_thenX (x_blkX (x_blk (x_then ?_)))))
            have hjj : twk (notQ 10) src j = j := by
              first
              | exact twk_end (by omega)
              | (refine twk_stop hc2 ?_
                 unfold notQ
                 have h2 : c2 = 10 := (u8_beq c2 10 (by decide)).2 (by omega)
                 simp [h2])
            have h9 := hprog (i := j) (by rw [← hjt]; exact hjj)
            exact ⟨src.length - j, by omega, j, rfl, hj, by rw [htk, tkF_cm hc hd45, ← hjt, hjj], hX, hF, kp _ ⟨rfl, rfl, trivial⟩⟩
        · skip
          refine c_reg ?_ -- region 5 syntaxm.go:80
          refine wl (ro_move rfl) ?_
          refine wl (ro_cmp rfl rfl rfl) ?_
          refine wl (ro_move rfl) ?_
          refine wlg_yes rfl (ro_move rfl) ?_
          refine wlg_yes rfl (ro_nilCheck rfl) ?_
          refine wlg_yes rfl (ro_fieldAddr (k := 2) rfl fo_146_2) ?_
          refine wlg_yes rfl (ro_loadB rfl sc_3 (by assumption) rfl) ?_
          refine wlg_yes rfl (ro_arith rfl rfl rfl (Go.IntWalk.i64_in _ (by omega))) ?_
          refine wlg_yes rfl (ro_move rfl) ?_
          refine wlg_yes rfl (ro_lenS rfl st_9) ?_
          refine wlg_yes rfl (ro_cmp (r := true) rfl rfl (congrArg some (decide_eq_true (by omega)))) ?_
          refine wl (ro_pick rfl rfl rfl) ?_
          refine wl (ro_move rfl) ?_
          refine wlg_yes rfl (ro_move rfl) ?_
          refine wlg_yes rfl (ro_move rfl) ?_
          refine wlg_yes rfl (ro_nilCheck rfl) ?_
          refine wlg_yes rfl (ro_fieldAddr (k := 2) rfl fo_146_2) ?_
          refine wlg_yes rfl (ro_loadB rfl sc_3 (by assumption) rfl) ?_
          refine wlg_yes rfl (ro_arith rfl rfl rfl (Go.IntWalk.i64_in _ (by omega))) ?_
          refine wlg_yes rfl (ro_indexS rfl rfl st_9 rfl (hd)) ?_
          refine wlg_yes rfl (ro_cmp (r := false) rfl rfl (congrArg some (beq_eq_false_iff_ne.2 hdn))) ?_
          refine wl (ro_pick rfl rfl rfl) ?_
          refine wl_nil (x_then (hK6 _ _ ?_))
          clear hK6 K6
          refine wc_condF rfl ?_
          refine c_exit (x_blkY rfl (x_thenX (x_blkX (x_then ?_))))
          exact ⟨q, hq, htk, hX, hF, fun c h => by rw [hc] at h; cases h; exact ⟨hsp, fun h => hdn (by have h2 := h.2; rw [hd] at h2; cases h2; rfl)⟩, kp _ ⟨rfl, rfl, trivial⟩⟩
        · skip
          refine c_reg ?_ -- region 5 syntaxm.go:80
          refine wl (ro_move rfl) ?_
          refine wl (ro_cmp rfl rfl rfl) ?_
          refine wl (ro_move rfl) ?_
          refine wlg_yes rfl (ro_move rfl) ?_
          refine wlg_yes rfl (ro_nilCheck rfl) ?_
          refine wlg_yes rfl (ro_fieldAddr (k := 2) rfl fo_146_2) ?_
          refine wlg_yes rfl (ro_loadB rfl sc_3 (by assumption) rfl) ?_
          refine wlg_yes rfl (ro_arith rfl rfl rfl (Go.IntWalk.i64_in _ (by omega))) ?_
          refine wlg_yes rfl (ro_move rfl) ?_
          refine wlg_yes rfl (ro_lenS rfl st_9) ?_
          refine wlg_yes rfl (ro_cmp (r := false) rfl rfl (congrArg some (decide_eq_false (by omega)))) ?_
          refine wl (ro_pick rfl rfl rfl) ?_
          refine wl (ro_move rfl) ?_
          refine wlg_no rfl ?_
          refine wlg_no rfl ?_
          refine wlg_no rfl ?_
          refine wlg_no rfl ?_
          refine wlg_no rfl ?_
          refine wlg_no rfl ?_
          refine wlg_no rfl ?_
          refine wlg_no rfl ?_
          refine wl (ro_pick rfl rfl rfl) ?_
          refine wl_nil (x_then (hK6 _ _ ?_))
          clear hK6 K6
          refine wc_condF rfl ?_
          refine c_exit (x_blkY rfl (x_thenX (x_blkX (x_then ?_))))
          exact ⟨q, hq, htk, hX, hF, fun c h => by rw [hc] at h; cases h; exact ⟨hsp, fun h => hlt (List.getElem?_eq_some_iff.1 h.2).1⟩, kp _ ⟨rfl, rfl, trivial⟩⟩
        · skip
          refine c_reg ?_ -- region 5 syntaxm.go:80
          refine wl (ro_move rfl) ?_
          refine wl (ro_cmp (r := false) rfl rfl (congrArg some (beq_eq_false_iff_ne.2 hn45))) ?_
          refine wl (ro_move rfl) ?_
          refine wlg_no rfl ?_
          refine wlg_no rfl ?_
          refine wlg_no rfl ?_
          refine wlg_no rfl ?_
          refine wlg_no rfl ?_
          refine wlg_no rfl ?_
          refine wlg_no rfl ?_
          refine wlg_no rfl ?_
          refine wl (ro_pick rfl rfl rfl) ?_
          refine wl (ro_move rfl) ?_
          refine wlg_no rfl ?_
          refine wlg_no rfl ?_
          refine wlg_no rfl ?_
          refine wlg_no rfl ?_
          refine wlg_no rfl ?_
          refine wlg_no rfl ?_
          refine wlg_no rfl ?_
          refine wlg_no rfl ?_
          refine wl (ro_pick rfl rfl rfl) ?_
          refine wl_nil (x_then (hK6 _ _ ?_))
          clear hK6 K6
          refine wc_condF rfl ?_
          refine c_exit (x_blkY rfl (x_thenX (x_blkX (x_then ?_))))
          exact ⟨q, hq, htk, hX, hF, fun c h => by rw [hc] at h; cases h; exact ⟨hsp, fun h => hn45' h.1⟩, kp _ ⟨rfl, rfl, trivial⟩⟩
    · try simp only [decide_eq_true_eq, decide_eq_false_iff_not, Bool.not_eq_true', Bool.not_eq_false', Bool.not_eq_eq_eq_not, Bool.not_true, Bool.not_false, beq_iff_eq, bne_iff_ne, ne_eq, beq_eq_false_iff_ne, bne_eq_false_iff_eq, gt_iff_lt, ge_iff_le, Int.not_lt, Int.not_le] at hc20
      refine c_exit (x_thenX (x_thenX (x_blkX (x_then ?_))))
      exact ⟨q, hq, htk, hX, hF, fun c h => by have := (List.getElem?_eq_some_iff.1 h).1; omega, kp _ ⟨rfl, rfl, trivial⟩⟩
  clear hF hX
  rintro a' u1 ⟨q, hq, htk, hX, hF, hns, e, rfl⟩
  refine c_seq (fun K9 hK9 => ?_)
  refine c_reg ?_ -- region 8 syntaxm.go:88
  refine wl (ro_move rfl) ?_
  refine wl (ro_nilCheck rfl) ?_
  refine wl (ro_fieldAddr (k := 2) rfl fo_146_2) ?_
  refine wl (ro_loadB rfl sc_3 (by assumption) rfl) ?_
  refine wl (ro_assign rfl) ?_
  refine wl_nil (x_then (hK9 _ _ ?_))
  clear hK9 K9
  refine c_seq (fun K10 hK10 => ?_)
  refine c_seq (fun K11 hK11 => ?_)
  refine c_reg ?_ -- region 9 syntaxm.go:89
  refine wl (ro_move rfl) ?_
  refine wl (ro_move rfl) ?_
  refine wl (ro_lenS rfl st_9) ?_
  refine wl (ro_cmp rfl rfl rfl) ?_
  refine wl_nil (x_then (hK11 _ _ ?_))
  clear hK11 K11
  refine wc_cond rfl (fun hc100 => ?_) (fun hc100 => ?_)
  · try simp only [decide_eq_true_eq, decide_eq_false_iff_not, Bool.not_eq_true', Bool.not_eq_false', Bool.not_eq_eq_eq_not, Bool.not_true, Bool.not_false, beq_iff_eq, bne_iff_ne, ne_eq, beq_eq_false_iff_ne, bne_eq_false_iff_eq, gt_iff_lt, ge_iff_le, Int.not_lt, Int.not_le] at hc100
    refine c_seq (fun K12 hK12 => ?_)
    refine c_reg ?_ -- region 10 syntaxm.go:90
    refine wl (ro_move rfl) ?_
    refine wl (ro_move rfl) ?_
    refine wl (ro_lenS rfl st_9) ?_
    refine wl (ro_build rfl bld_144_0_3) ?_
    refine wl (ro_nilCheck rfl) ?_
    refine wl (ro_fieldAddr (k := 3) rfl fo_146_3) ?_
    refine wl_puta rfl rfl ((by simp [Value.oneCell', i64c, u64c, S])) sz_144 (rfl) hX ((by simp)) (rfl) (fun w6 hX F6 => ?_)
    replace hF := hF.thenDrew.thenO F6 (by first | exact .inr (by omega) | exact .inl rfl | exact .inl (by assumption) | assumption)
    refine wl_nil (x_then (hK12 _ _ ?_))
    clear hK12 K12
    refine c_ret (x_thenR ?_)
    refine bp_ret Tryz.results48 rfl ?_
    obtain rfl : q = src.length := by omega
    exact ⟨rfl, hF, src.length, ⟨0, src.length, [], 0, 0⟩, hX, Nat.le_refl _, ⟨[], by rw [htk, tkF_end (Nat.le_refl _)]⟩, fun h => by simp at h⟩
  · try simp only [decide_eq_true_eq, decide_eq_false_iff_not, Bool.not_eq_true', Bool.not_eq_false', Bool.not_eq_eq_eq_not, Bool.not_true, Bool.not_false, beq_iff_eq, bne_iff_ne, ne_eq, beq_eq_false_iff_ne, bne_eq_false_iff_eq, gt_iff_lt, ge_iff_le, Int.not_lt, Int.not_le] at hc100
    refine c_skip (x_then (hK10 _ _ ?_))
    clear hK10 K10
    refine forget [(0, _), (2, _), (4, _)] ⟨rfl, rfl, rfl, trivial⟩ (fun e => ?_)
    refine c_seq (fun K13 hK13 => ?_)
    obtain ⟨c, hc⟩ : ∃ c, src[q]? = some c := ⟨_, List.getElem?_eq_getElem (by omega)⟩
    obtain ⟨hsp, hcm⟩ := hns c hc
    have hT := tkF_tok hc hsp hcm
    have hql : q < src.length := (List.getElem?_eq_some_iff.1 hc).1
    refine c_reg ?_ -- region 11 syntaxm.go:93
    refine wl (ro_move rfl) ?_
    refine wl (ro_move rfl) ?_
    refine wl (ro_indexS rfl rfl st_9 rfl (hc)) ?_
    refine wl (ro_assign rfl) ?_
    refine wl_nil (x_then (hK13 _ _ ?_))
    clear hK13 K13
    refine forget [(0, _), (2, _), (4, _), (5, _)] ⟨rfl, rfl, rfl, rfl, trivial⟩ (fun e => ?_)
    refine c_seq (fun K14 hK14 => ?_)
    refine c_reg ?_ -- region 12 syntaxm.go:94
    refine wl (ro_move rfl) ?_
    refine wl (ro_assign rfl) ?_
    refine wl_nil (x_then (hK14 _ _ ?_))
    clear hK14 K14
    refine c_seq (fun K15 hK15 => ?_)
    refine c_seq (fun K16 hK16 => ?_)
    refine c_reg ?_ -- region 13 syntaxm.go:95
    refine wl (ro_move rfl) ?_
    refine wl_call rfl en_98 (letter98) ?_
    rintro _ _ ⟨rfl, rfl⟩
    refine wl_nil (x_then (hK16 _ _ ?_))
    clear hK16 K16
    refine wc_cond rfl (fun hc112 => ?_) (fun hc112 => ?_)
    · try simp only [decide_eq_true_eq, decide_eq_false_iff_not, Bool.not_eq_true', Bool.not_eq_false', Bool.not_eq_eq_eq_not, Bool.not_true, Bool.not_false, beq_iff_eq, bne_iff_ne, ne_eq, beq_eq_false_iff_ne, bne_eq_false_iff_eq, gt_iff_lt, ge_iff_le, Int.not_lt, Int.not_le] at hc112
      have hA := tok_word hc hc112
      have hw := twk_le (p := isWrd) (s := src) (i := q) (by omega)
      refine c_seq (fun K17 hK17 => ?_)
      refine c_block ?_
      -- loop@r14: live slots [0, 2, 4, 6]
      refine c_loopG (fun n a' w' => ∃ j, n = src.length - j ∧ q ≤ j ∧ j ≤ src.length ∧ twk (isWrd) src j = twk (isWrd) src (q) ∧ Blk w'.heap mp [np, S src, i64c q, k1, k2, k3, k4, k5, x1, x2, x3, x4, x5, x6] 146 ∧ Fram (one mp) w w' ∧ ∃ e, a' = Fr 385 (upds e [(0, ptr mp), (2, S src), (4, i64c q), (5, u8c c), (6, i64c j)]) []) (src.length - (q)) ⟨q, rfl, Nat.le_refl _, hq, rfl, hX, hF, kp _ ⟨rfl, rfl, rfl, rfl, rfl, trivial⟩⟩ ?_
      clear hF hX
      rintro n a' u2 ⟨j, rfl, hqj, hj, hjt, hX, hF, e, rfl⟩
      refine c_seq (fun K18 hK18 => ?_)
      refine c_seq (fun K19 hK19 => ?_)
      refine c_reg ?_ -- region 14 syntaxm.go:96
      refine wl (ro_move rfl) ?_
      refine wl (ro_move rfl) ?_
      refine wl (ro_lenS rfl st_9) ?_
      refine wl (ro_cmp rfl rfl rfl) ?_
      refine wl_fork rfl (fun hg117 => ?_) (fun hg117 => ?_)
      · try simp only [decide_eq_true_eq, decide_eq_false_iff_not, Bool.not_eq_true', Bool.not_eq_false', Bool.not_eq_eq_eq_not, Bool.not_true, Bool.not_false, beq_iff_eq, bne_iff_ne, ne_eq, beq_eq_false_iff_ne, bne_eq_false_iff_eq, gt_iff_lt, ge_iff_le, Int.not_lt, Int.not_le] at hg117
        obtain ⟨c2, hc2⟩ : ∃ c2, src[j]? = some c2 := ⟨_, List.getElem?_eq_getElem (by omega)⟩
        refine wlg_yes rfl (ro_move rfl) ?_
        refine wlg_yes rfl (ro_move rfl) ?_
        refine wlg_yes rfl (ro_indexS rfl rfl st_9 rfl (hc2)) ?_
        refine wlg_call rfl rfl en_99 (word99) ?_
        rintro _ _ ⟨rfl, rfl⟩
        refine wl (ro_pick rfl rfl rfl) ?_
        refine wl_nil (x_then (hK19 _ _ ?_))
        clear hK19 K19
        refine wc_cond rfl (fun hc122 => ?_) (fun hc122 => ?_)
        · try simp only [decide_eq_true_eq, decide_eq_false_iff_not, Bool.not_eq_true', Bool.not_eq_false', Bool.not_eq_eq_eq_not, Bool.not_true, Bool.not_false, beq_iff_eq, bne_iff_ne, ne_eq, beq_eq_false_iff_ne, bne_eq_false_iff_eq, gt_iff_lt, ge_iff_le, Int.not_lt, Int.not_le] at hc122
          refine c_skip (x_then (hK18 _ _ ?_))
          clear hK18 K18
          refine c_block ?_
          refine c_reg ?_ -- region 15 syntaxm.go:97
          refine wl (ro_move rfl) ?_
          refine wl (ro_arith rfl rfl rfl (Go.IntWalk.i64_in _ (by omega))) ?_
          refine wl (ro_assign rfl) ?_
          refine wl_nil (x_blk (x_then ?_))
          exact ⟨src.length - (j + 1), by omega, j + 1, rfl, by omega, by omega, by rw [twk_step hc2 hc122]; exact hjt, hX, hF, kp _ ⟨rfl, rfl, rfl, rfl, rfl, trivial⟩⟩
        · try simp only [decide_eq_true_eq, decide_eq_false_iff_not, Bool.not_eq_true', Bool.not_eq_false', Bool.not_eq_eq_eq_not, Bool.not_true, Bool.not_false, beq_iff_eq, bne_iff_ne, ne_eq, beq_eq_false_iff_ne, bne_eq_false_iff_eq, gt_iff_lt, ge_iff_le, Int.not_lt, Int.not_le] at hc122
          refine c_exit (x_thenX (x_thenX (x_blkX (x_then (hK17 _ _ ?_)))))
          clear hK18 K18 hK17 K17
          refine forget [(0, _), (2, _), (4, _), (6, _)] ⟨rfl, rfl, rfl, rfl, trivial⟩ (fun e => ?_)
          refine c_seq (fun K20 hK20 => ?_)
          have hjj : twk isWrd src j = j := by
            first
            | exact twk_end (by omega)
            | exact twk_stop hc2 hc122
          have hjw : twk isWrd src q = j := by rw [← hjt]; exact hjj
          rw [hjw] at hA
          refine c_reg ?_ -- region 16 syntaxm.go:99
          refine wl (ro_move rfl) ?_
          refine wl (ro_move rfl) ?_
          refine wl (ro_nilCheck rfl) ?_
          refine wl (ro_fieldAddr (k := 2) rfl fo_146_2) ?_
          refine wl_put rfl rfl rfl sz_3 hX (by simp) (rfl) (fun w7 hX F7 => ?_)
          replace hF := hF.thenDrew.thenO F7 (by first | exact .inr (by omega) | exact .inl rfl | exact .inl (by assumption) | assumption)
          refine wl_nil (x_then (hK20 _ _ ?_))
          clear hK20 K20
          refine c_seq (fun K21 hK21 => ?_)
          refine c_seq (fun K22 hK22 => ?_)
          refine c_reg ?_ -- region 17 syntaxm.go:100
          refine wl (ro_move rfl) ?_
          refine wl (ro_move rfl) ?_
          refine wl (ro_arith rfl rfl rfl (Go.IntWalk.i64_in _ (by omega))) ?_
          refine wl (ro_cmp rfl rfl rfl) ?_
          refine wl_nil (x_then (hK22 _ _ ?_))
          clear hK22 K22
          refine wc_cond rfl (fun hc132 => ?_) (fun hc132 => ?_)
          · try simp only [decide_eq_true_eq, decide_eq_false_iff_not, Bool.not_eq_true', Bool.not_eq_false', Bool.not_eq_eq_eq_not, Bool.not_true, Bool.not_false, beq_iff_eq, bne_iff_ne, ne_eq, beq_eq_false_iff_ne, bne_eq_false_iff_eq, gt_iff_lt, ge_iff_le, Int.not_lt, Int.not_le] at hc132
            rw [if_neg (by omega)] at hA
            refine c_seq (fun K23 hK23 => ?_)
            refine c_reg ?_ -- region 18 syntaxm.go:101
            refine wl (ro_move rfl) ?_
            refine wl (ro_move rfl) ?_
            refine wl (ro_build rfl bld_144_0_4_3) ?_
            refine wl (ro_nilCheck rfl) ?_
            refine wl (ro_fieldAddr (k := 3) rfl fo_146_3) ?_
            refine wl_puta rfl rfl ((by simp [Value.oneCell', i64c, u64c, S])) sz_144 (rfl) hX ((by simp)) (rfl) (fun w8 hX F8 => ?_)
            replace hF := hF.thenDrew.thenO F8 (by first | exact .inr (by omega) | exact .inl rfl | exact .inl (by assumption) | assumption)
            refine wl_nil (x_then (hK23 _ _ ?_))
            clear hK23 K23
            refine c_ret (x_thenR (x_thenR ?_))
            refine bp_ret Tryz.results48 rfl ?_
            have h9 := nx_ok (pos' := j) htk hT hA (fun h => by simp at h)
            exact ⟨rfl, hF, j, ⟨1, q, [], 0, 14⟩, hX, hj, h9.1, h9.2⟩
          · try simp only [decide_eq_true_eq, decide_eq_false_iff_not, Bool.not_eq_true', Bool.not_eq_false', Bool.not_eq_eq_eq_not, Bool.not_true, Bool.not_false, beq_iff_eq, bne_iff_ne, ne_eq, beq_eq_false_iff_ne, bne_eq_false_iff_eq, gt_iff_lt, ge_iff_le, Int.not_lt, Int.not_le] at hc132
            rw [if_pos (by omega)] at hA
            refine c_skip (x_then (hK21 _ _ ?_))
            clear hK21 K21
            refine forget [(0, _), (2, _), (4, _), (6, _)] ⟨rfl, rfl, rfl, rfl, trivial⟩ (fun e => ?_)
            refine c_seq (fun K24 hK24 => ?_)
            refine c_reg ?_ -- region 19 syntaxm.go:104
            refine wl (ro_assign rfl) ?_
            refine wl_nil (x_then (hK24 _ _ ?_))
            clear hK24 K24
            refine c_seq (fun K25 hK25 => ?_)
            refine c_seq (fun K26 hK26 => ?_)
            refine c_reg ?_ -- region 20 syntaxm.go:105
            refine wl (ro_move rfl) ?_
            refine wl (ro_move rfl) ?_
            refine wl (ro_move rfl) ?_
            refine wl (ro_sliceSLH (l := q) (h := j) rfl rfl rfl st_9 rfl rfl (by omega) (by omega)) ?_
            refine wl_call rfl en_100 (keyword100) ?_
            rintro _ _ ⟨rfl, rfl⟩
            refine wl_nil (x_then (hK26 _ _ ?_))
            clear hK26 K26
            refine wc_cond rfl (fun hc142 => ?_) (fun hc142 => ?_)
            · try simp only [decide_eq_true_eq, decide_eq_false_iff_not, Bool.not_eq_true', Bool.not_eq_false', Bool.not_eq_eq_eq_not, Bool.not_true, Bool.not_false, beq_iff_eq, bne_iff_ne, ne_eq, beq_eq_false_iff_ne, bne_eq_false_iff_eq, gt_iff_lt, ge_iff_le, Int.not_lt, Int.not_le] at hc142
              obtain ⟨i, hi⟩ := Option.isSome_iff_exists.1 hc142
              rw [hi] at hA
              refine c_reg ?_ -- region 21 syntaxm.go:106
              refine wl (ro_assign rfl) ?_
              refine wl_nil (x_then (hK25 _ _ ?_))
              clear hK25 K25
              refine forget [(0, _), (2, _), (4, _), (6, _), (7, _)] ⟨rfl, rfl, rfl, rfl, rfl, trivial⟩ (fun e => ?_)
              refine c_seq (fun K27 hK27 => ?_)
              refine c_reg ?_ -- region 22 syntaxm.go:108
              refine wl (ro_move rfl) ?_
              refine wl (ro_move rfl) ?_
              refine wl (ro_move rfl) ?_
              refine wl (ro_move rfl) ?_
              refine wl (ro_move rfl) ?_
              refine wl (ro_sliceSLH (l := q) (h := j) rfl rfl rfl st_9 rfl rfl (by omega) (by omega)) ?_
              refine wl (ro_move rfl) ?_
              refine wl (ro_build rfl bld_144_0_1_3) ?_
              refine wl (ro_nilCheck rfl) ?_
              refine wl (ro_fieldAddr (k := 3) rfl fo_146_3) ?_
              refine wl_puta rfl rfl ((by simp [Value.oneCell', i64c, u64c, S])) sz_144 (rfl) hX ((by simp)) (rfl) (fun w9 hX F9 => ?_)
              replace hF := hF.thenDrew.thenO F9 (by first | exact .inr (by omega) | exact .inl rfl | exact .inl (by assumption) | assumption)
              refine wl_nil (x_then (hK27 _ _ ?_))
              clear hK27 K27
              refine c_ret (x_thenR ?_)
              refine bp_ret Tryz.results48 rfl ?_
              have h9 := nx_ok (pos' := j) htk hT hA (fun _ => by omega)
              obtain ⟨e1, e2, e3, e4⟩ := kw_tok (q := q) hi
              exact ⟨rfl, hF, j, _, by rw [mpc_of e1 e2 e3 e4]; exact hX, hj, h9.1, h9.2⟩
            · try simp only [decide_eq_true_eq, decide_eq_false_iff_not, Bool.not_eq_true', Bool.not_eq_false', Bool.not_eq_eq_eq_not, Bool.not_true, Bool.not_false, beq_iff_eq, bne_iff_ne, ne_eq, beq_eq_false_iff_ne, bne_eq_false_iff_eq, gt_iff_lt, ge_iff_le, Int.not_lt, Int.not_le] at hc142
              have hi : posS ((src.drop q).take (j - q)) kwL = none := by simpa using hc142
              rw [hi] at hA
              refine c_skip (x_then (hK25 _ _ ?_))
              clear hK25 K25
              refine forget [(0, _), (2, _), (4, _), (6, _), (7, _)] ⟨rfl, rfl, rfl, rfl, rfl, trivial⟩ (fun e => ?_)
              refine c_seq (fun K28 hK28 => ?_)
              refine c_reg ?_ -- region 22 syntaxm.go:108
              refine wl (ro_move rfl) ?_
              refine wl (ro_move rfl) ?_
              refine wl (ro_move rfl) ?_
              refine wl (ro_move rfl) ?_
              refine wl (ro_move rfl) ?_
              refine wl (ro_sliceSLH (l := q) (h := j) rfl rfl rfl st_9 rfl rfl (by omega) (by omega)) ?_
              refine wl (ro_move rfl) ?_
              refine wl (ro_build rfl bld_144_0_1_3) ?_
              refine wl (ro_nilCheck rfl) ?_
              refine wl (ro_fieldAddr (k := 3) rfl fo_146_3) ?_
              refine wl_puta rfl rfl ((by simp [Value.oneCell', i64c, u64c, S])) sz_144 (rfl) hX ((by simp)) (rfl) (fun w10 hX F10 => ?_)
              replace hF := hF.thenDrew.thenO F10 (by first | exact .inr (by omega) | exact .inl rfl | exact .inl (by assumption) | assumption)
              refine wl_nil (x_then (hK28 _ _ ?_))
              clear hK28 K28
              refine c_ret (x_thenR ?_)
              refine bp_ret Tryz.results48 rfl ?_
              have h9 := nx_ok (pos' := j) htk hT hA (fun _ => by omega)
              exact ⟨rfl, hF, j, ⟨2, q, (src.drop q).take (j - q), 0, 0⟩, hX, hj, h9.1, h9.2⟩
      · try simp only [decide_eq_true_eq, decide_eq_false_iff_not, Bool.not_eq_true', Bool.not_eq_false', Bool.not_eq_eq_eq_not, Bool.not_true, Bool.not_false, beq_iff_eq, bne_iff_ne, ne_eq, beq_eq_false_iff_ne, bne_eq_false_iff_eq, gt_iff_lt, ge_iff_le, Int.not_lt, Int.not_le] at hg117
        refine wlg_no rfl ?_
        refine wlg_no rfl ?_
        refine wlg_no rfl ?_
        refine wlg_no rfl ?_
        refine wl (ro_pick rfl rfl rfl) ?_
        refine wl_nil (x_then (hK19 _ _ ?_))
        clear hK19 K19
        refine wc_condF rfl ?_
        refine c_exit (x_thenX (x_thenX (x_blkX (x_then (hK17 _ _ ?_)))))
        clear hK18 K18 hK17 K17
        refine forget [(0, _), (2, _), (4, _), (6, _)] ⟨rfl, rfl, rfl, rfl, trivial⟩ (fun e => ?_)
        refine c_seq (fun K29 hK29 => ?_)
        have hjj : twk isWrd src j = j := by
          first
          | exact twk_end (by omega)
          | exact twk_stop hc2 hc122
        have hjw : twk isWrd src q = j := by rw [← hjt]; exact hjj
        rw [hjw] at hA
        refine c_reg ?_ -- region 16 syntaxm.go:99
        refine wl (ro_move rfl) ?_
        refine wl (ro_move rfl) ?_
        refine wl (ro_nilCheck rfl) ?_
        refine wl (ro_fieldAddr (k := 2) rfl fo_146_2) ?_
        refine wl_put rfl rfl rfl sz_3 hX (by simp) (rfl) (fun w11 hX F11 => ?_)
        replace hF := hF.thenDrew.thenO F11 (by first | exact .inr (by omega) | exact .inl rfl | exact .inl (by assumption) | assumption)
        refine wl_nil (x_then (hK29 _ _ ?_))
        clear hK29 K29
        refine c_seq (fun K30 hK30 => ?_)
        refine c_seq (fun K31 hK31 => ?_)
        refine c_reg ?_ -- region 17 syntaxm.go:100
        refine wl (ro_move rfl) ?_
        refine wl (ro_move rfl) ?_
        refine wl (ro_arith rfl rfl rfl (Go.IntWalk.i64_in _ (by omega))) ?_
        refine wl (ro_cmp rfl rfl rfl) ?_
        refine wl_nil (x_then (hK31 _ _ ?_))
        clear hK31 K31
        refine wc_cond rfl (fun hc132 => ?_) (fun hc132 => ?_)
        · try simp only [decide_eq_true_eq, decide_eq_false_iff_not, Bool.not_eq_true', Bool.not_eq_false', Bool.not_eq_eq_eq_not, Bool.not_true, Bool.not_false, beq_iff_eq, bne_iff_ne, ne_eq, beq_eq_false_iff_ne, bne_eq_false_iff_eq, gt_iff_lt, ge_iff_le, Int.not_lt, Int.not_le] at hc132
          rw [if_neg (by omega)] at hA
          refine c_seq (fun K32 hK32 => ?_)
          refine c_reg ?_ -- region 18 syntaxm.go:101
          refine wl (ro_move rfl) ?_
          refine wl (ro_move rfl) ?_
          refine wl (ro_build rfl bld_144_0_4_3) ?_
          refine wl (ro_nilCheck rfl) ?_
          refine wl (ro_fieldAddr (k := 3) rfl fo_146_3) ?_
          refine wl_puta rfl rfl ((by simp [Value.oneCell', i64c, u64c, S])) sz_144 (rfl) hX ((by simp)) (rfl) (fun w12 hX F12 => ?_)
          replace hF := hF.thenDrew.thenO F12 (by first | exact .inr (by omega) | exact .inl rfl | exact .inl (by assumption) | assumption)
          refine wl_nil (x_then (hK32 _ _ ?_))
          clear hK32 K32
          refine c_ret (x_thenR (x_thenR ?_))
          refine bp_ret Tryz.results48 rfl ?_
          have h9 := nx_ok (pos' := j) htk hT hA (fun h => by simp at h)
          exact ⟨rfl, hF, j, ⟨1, q, [], 0, 14⟩, hX, hj, h9.1, h9.2⟩
        · try simp only [decide_eq_true_eq, decide_eq_false_iff_not, Bool.not_eq_true', Bool.not_eq_false', Bool.not_eq_eq_eq_not, Bool.not_true, Bool.not_false, beq_iff_eq, bne_iff_ne, ne_eq, beq_eq_false_iff_ne, bne_eq_false_iff_eq, gt_iff_lt, ge_iff_le, Int.not_lt, Int.not_le] at hc132
          rw [if_pos (by omega)] at hA
          refine c_skip (x_then (hK30 _ _ ?_))
          clear hK30 K30
          refine forget [(0, _), (2, _), (4, _), (6, _)] ⟨rfl, rfl, rfl, rfl, trivial⟩ (fun e => ?_)
          refine c_seq (fun K33 hK33 => ?_)
          refine c_reg ?_ -- region 19 syntaxm.go:104
          refine wl (ro_assign rfl) ?_
          refine wl_nil (x_then (hK33 _ _ ?_))
          clear hK33 K33
          refine c_seq (fun K34 hK34 => ?_)
          refine c_seq (fun K35 hK35 => ?_)
          refine c_reg ?_ -- region 20 syntaxm.go:105
          refine wl (ro_move rfl) ?_
          refine wl (ro_move rfl) ?_
          refine wl (ro_move rfl) ?_
          refine wl (ro_sliceSLH (l := q) (h := j) rfl rfl rfl st_9 rfl rfl (by omega) (by omega)) ?_
          refine wl_call rfl en_100 (keyword100) ?_
          rintro _ _ ⟨rfl, rfl⟩
          refine wl_nil (x_then (hK35 _ _ ?_))
          clear hK35 K35
          refine wc_cond rfl (fun hc142 => ?_) (fun hc142 => ?_)
          · try simp only [decide_eq_true_eq, decide_eq_false_iff_not, Bool.not_eq_true', Bool.not_eq_false', Bool.not_eq_eq_eq_not, Bool.not_true, Bool.not_false, beq_iff_eq, bne_iff_ne, ne_eq, beq_eq_false_iff_ne, bne_eq_false_iff_eq, gt_iff_lt, ge_iff_le, Int.not_lt, Int.not_le] at hc142
            obtain ⟨i, hi⟩ := Option.isSome_iff_exists.1 hc142
            rw [hi] at hA
            refine c_reg ?_ -- region 21 syntaxm.go:106
            refine wl (ro_assign rfl) ?_
            refine wl_nil (x_then (hK34 _ _ ?_))
            clear hK34 K34
            refine forget [(0, _), (2, _), (4, _), (6, _), (7, _)] ⟨rfl, rfl, rfl, rfl, rfl, trivial⟩ (fun e => ?_)
            refine c_seq (fun K36 hK36 => ?_)
            refine c_reg ?_ -- region 22 syntaxm.go:108
            refine wl (ro_move rfl) ?_
            refine wl (ro_move rfl) ?_
            refine wl (ro_move rfl) ?_
            refine wl (ro_move rfl) ?_
            refine wl (ro_move rfl) ?_
            refine wl (ro_sliceSLH (l := q) (h := j) rfl rfl rfl st_9 rfl rfl (by omega) (by omega)) ?_
            refine wl (ro_move rfl) ?_
            refine wl (ro_build rfl bld_144_0_1_3) ?_
            refine wl (ro_nilCheck rfl) ?_
            refine wl (ro_fieldAddr (k := 3) rfl fo_146_3) ?_
            refine wl_puta rfl rfl ((by simp [Value.oneCell', i64c, u64c, S])) sz_144 (rfl) hX ((by simp)) (rfl) (fun w13 hX F13 => ?_)
            replace hF := hF.thenDrew.thenO F13 (by first | exact .inr (by omega) | exact .inl rfl | exact .inl (by assumption) | assumption)
            refine wl_nil (x_then (hK36 _ _ ?_))
            clear hK36 K36
            refine c_ret (x_thenR ?_)
            refine bp_ret Tryz.results48 rfl ?_
            have h9 := nx_ok (pos' := j) htk hT hA (fun _ => by omega)
            obtain ⟨e1, e2, e3, e4⟩ := kw_tok (q := q) hi
            exact ⟨rfl, hF, j, _, by rw [mpc_of e1 e2 e3 e4]; exact hX, hj, h9.1, h9.2⟩
          · try simp only [decide_eq_true_eq, decide_eq_false_iff_not, Bool.not_eq_true', Bool.not_eq_false', Bool.not_eq_eq_eq_not, Bool.not_true, Bool.not_false, beq_iff_eq, bne_iff_ne, ne_eq, beq_eq_false_iff_ne, bne_eq_false_iff_eq, gt_iff_lt, ge_iff_le, Int.not_lt, Int.not_le] at hc142
            have hi : posS ((src.drop q).take (j - q)) kwL = none := by simpa using hc142
            rw [hi] at hA
            refine c_skip (x_then (hK34 _ _ ?_))
            clear hK34 K34
            refine forget [(0, _), (2, _), (4, _), (6, _), (7, _)] ⟨rfl, rfl, rfl, rfl, rfl, trivial⟩ (fun e => ?_)
            refine c_seq (fun K37 hK37 => ?_)
            refine c_reg ?_ -- region 22 syntaxm.go:108
            refine wl (ro_move rfl) ?_
            refine wl (ro_move rfl) ?_
            refine wl (ro_move rfl) ?_
            refine wl (ro_move rfl) ?_
            refine wl (ro_move rfl) ?_
            refine wl (ro_sliceSLH (l := q) (h := j) rfl rfl rfl st_9 rfl rfl (by omega) (by omega)) ?_
            refine wl (ro_move rfl) ?_
            refine wl (ro_build rfl bld_144_0_1_3) ?_
            refine wl (ro_nilCheck rfl) ?_
            refine wl (ro_fieldAddr (k := 3) rfl fo_146_3) ?_
            refine wl_puta rfl rfl ((by simp [Value.oneCell', i64c, u64c, S])) sz_144 (rfl) hX ((by simp)) (rfl) (fun w14 hX F14 => ?_)
            replace hF := hF.thenDrew.thenO F14 (by first | exact .inr (by omega) | exact .inl rfl | exact .inl (by assumption) | assumption)
            refine wl_nil (x_then (hK37 _ _ ?_))
            clear hK37 K37
            refine c_ret (x_thenR ?_)
            refine bp_ret Tryz.results48 rfl ?_
            have h9 := nx_ok (pos' := j) htk hT hA (fun _ => by omega)
            exact ⟨rfl, hF, j, ⟨2, q, (src.drop q).take (j - q), 0, 0⟩, hX, hj, h9.1, h9.2⟩
    · try simp only [decide_eq_true_eq, decide_eq_false_iff_not, Bool.not_eq_true', Bool.not_eq_false', Bool.not_eq_eq_eq_not, Bool.not_true, Bool.not_false, beq_iff_eq, bne_iff_ne, ne_eq, beq_eq_false_iff_ne, bne_eq_false_iff_eq, gt_iff_lt, ge_iff_le, Int.not_lt, Int.not_le] at hc112
      have hnl : isLet c = false := hc112
      refine c_skip (x_then (hK15 _ _ ?_))
      clear hK15 K15
      refine c_seq (fun K38 hK38 => ?_)
      refine c_seq (fun K39 hK39 => ?_)
      refine c_reg ?_ -- region 23 syntaxm.go:111
      refine wl (ro_move rfl) ?_
      refine wl_call rfl en_101 (digit101) ?_
      rintro _ _ ⟨rfl, rfl⟩
      refine wl_nil (x_then (hK39 _ _ ?_))
      clear hK39 K39
      refine wc_cond rfl (fun hc154 => ?_) (fun hc154 => ?_)
      · try simp only [decide_eq_true_eq, decide_eq_false_iff_not, Bool.not_eq_true', Bool.not_eq_false', Bool.not_eq_eq_eq_not, Bool.not_true, Bool.not_false, beq_iff_eq, bne_iff_ne, ne_eq, beq_eq_false_iff_ne, bne_eq_false_iff_eq, gt_iff_lt, ge_iff_le, Int.not_lt, Int.not_le] at hc154
        have hA := tok_num hc hc154 hnl
        have hD := twk_le (p := isDig) (s := src) (i := q) (by omega)
        refine c_mid (fun a' w' => Blk w'.heap mp [np, S src, i64c q, k1, k2, k3, k4, k5, x1, x2, x3, x4, x5, x6] 146 ∧ Fram (one mp) w w' ∧ ∃ e, a' = Fr 385 (upds e [(0, ptr mp), (2, S src), (4, i64c q), (5, u8c c), (6, i64c (twk isDig src q))]) []) ?_ ?_
        · skip
          refine c_block ?_
          -- loop@r24: live slots [0, 2, 4, 6]
          refine c_loopG (fun n a' w' => ∃ j, n = src.length - j ∧ q ≤ j ∧ j ≤ src.length ∧ twk (isDig) src j = twk (isDig) src (q) ∧ Blk w'.heap mp [np, S src, i64c q, k1, k2, k3, k4, k5, x1, x2, x3, x4, x5, x6] 146 ∧ Fram (one mp) w w' ∧ ∃ e, a' = Fr 385 (upds e [(0, ptr mp), (2, S src), (4, i64c q), (5, u8c c), (6, i64c j)]) []) (src.length - (q)) ⟨q, rfl, Nat.le_refl _, hq, rfl, hX, hF, kp _ ⟨rfl, rfl, rfl, rfl, rfl, trivial⟩⟩ ?_
          clear hF hX
          rintro n a' u2 ⟨j, rfl, hqj, hj, hjt, hX, hF, e, rfl⟩
          refine c_seq (fun K40 hK40 => ?_)
          refine c_seq (fun K41 hK41 => ?_)
          refine c_reg ?_ -- region 24 syntaxm.go:112
          refine wl (ro_move rfl) ?_
          refine wl (ro_move rfl) ?_
          refine wl (ro_lenS rfl st_9) ?_
          refine wl (ro_cmp rfl rfl rfl) ?_
          refine wl_fork rfl (fun hg159 => ?_) (fun hg159 => ?_)
          · try simp only [decide_eq_true_eq, decide_eq_false_iff_not, Bool.not_eq_true', Bool.not_eq_false', Bool.not_eq_eq_eq_not, Bool.not_true, Bool.not_false, beq_iff_eq, bne_iff_ne, ne_eq, beq_eq_false_iff_ne, bne_eq_false_iff_eq, gt_iff_lt, ge_iff_le, Int.not_lt, Int.not_le] at hg159
            obtain ⟨c2, hc2⟩ : ∃ c2, src[j]? = some c2 := ⟨_, List.getElem?_eq_getElem (by omega)⟩
            refine wlg_yes rfl (ro_move rfl) ?_
            refine wlg_yes rfl (ro_move rfl) ?_
            refine wlg_yes rfl (ro_indexS rfl rfl st_9 rfl (hc2)) ?_
            refine wlg_call rfl rfl en_101 (digit101) ?_
            rintro _ _ ⟨rfl, rfl⟩
            refine wl (ro_pick rfl rfl rfl) ?_
            refine wl_nil (x_then (hK41 _ _ ?_))
            clear hK41 K41
            refine wc_cond rfl (fun hc164 => ?_) (fun hc164 => ?_)
            · try simp only [decide_eq_true_eq, decide_eq_false_iff_not, Bool.not_eq_true', Bool.not_eq_false', Bool.not_eq_eq_eq_not, Bool.not_true, Bool.not_false, beq_iff_eq, bne_iff_ne, ne_eq, beq_eq_false_iff_ne, bne_eq_false_iff_eq, gt_iff_lt, ge_iff_le, Int.not_lt, Int.not_le] at hc164
              refine c_skip (x_then (hK40 _ _ ?_))
              clear hK40 K40
              refine c_block ?_
              refine c_reg ?_ -- region 25 syntaxm.go:113
              refine wl (ro_move rfl) ?_
              refine wl (ro_arith rfl rfl rfl (Go.IntWalk.i64_in _ (by omega))) ?_
              refine wl (ro_assign rfl) ?_
              refine wl_nil (x_blk (x_then ?_))
              exact ⟨src.length - (j + 1), by omega, j + 1, rfl, by omega, by omega, by rw [twk_step hc2 hc164]; exact hjt, hX, hF, kp _ ⟨rfl, rfl, rfl, rfl, rfl, trivial⟩⟩
            · try simp only [decide_eq_true_eq, decide_eq_false_iff_not, Bool.not_eq_true', Bool.not_eq_false', Bool.not_eq_eq_eq_not, Bool.not_true, Bool.not_false, beq_iff_eq, bne_iff_ne, ne_eq, beq_eq_false_iff_ne, bne_eq_false_iff_eq, gt_iff_lt, ge_iff_le, Int.not_lt, Int.not_le] at hc164
              refine c_exit (x_thenX (x_thenX (x_blkX (x_then ?_))))
              have hjj : twk isDig src j = j := by
                first
                | exact twk_end (by omega)
                | exact twk_stop hc2 hc164
              have hjw : j = twk isDig src q := by rw [← hjt]; exact hjj.symm
              exact ⟨hX, hF, kp _ ⟨rfl, rfl, rfl, rfl, congrArg (fun z : Nat => some (i64c z)) hjw, trivial⟩⟩
          · try simp only [decide_eq_true_eq, decide_eq_false_iff_not, Bool.not_eq_true', Bool.not_eq_false', Bool.not_eq_eq_eq_not, Bool.not_true, Bool.not_false, beq_iff_eq, bne_iff_ne, ne_eq, beq_eq_false_iff_ne, bne_eq_false_iff_eq, gt_iff_lt, ge_iff_le, Int.not_lt, Int.not_le] at hg159
            refine wlg_no rfl ?_
            refine wlg_no rfl ?_
            refine wlg_no rfl ?_
            refine wlg_no rfl ?_
            refine wl (ro_pick rfl rfl rfl) ?_
            refine wl_nil (x_then (hK41 _ _ ?_))
            clear hK41 K41
            refine wc_condF rfl ?_
            refine c_exit (x_thenX (x_thenX (x_blkX (x_then ?_))))
            have hjj : twk isDig src j = j := by
              first
              | exact twk_end (by omega)
              | exact twk_stop hc2 hc164
            have hjw : j = twk isDig src q := by rw [← hjt]; exact hjj.symm
            exact ⟨hX, hF, kp _ ⟨rfl, rfl, rfl, rfl, congrArg (fun z : Nat => some (i64c z)) hjw, trivial⟩⟩
        clear hF hX
        rintro a' u2 ⟨hX, hF, e, rfl⟩
        refine c_mid (fun a' w' => Blk w'.heap mp [np, S src, i64c q, k1, k2, k3, k4, k5, x1, x2, x3, x4, x5, x6] 146 ∧ Fram (one mp) w w' ∧ ∃ e, a' = Fr 385 (upds e [(0, ptr mp), (2, S src), (4, i64c q), (5, u8c c), (6, i64c (numE src q))]) []) ?_ ?_
        · skip
          refine c_seq (fun K42 hK42 => ?_)
          refine c_reg ?_ -- region 26 syntaxm.go:115
          refine wl (ro_move rfl) ?_
          refine wl (ro_arith rfl rfl rfl (Go.IntWalk.i64_in _ (by omega))) ?_
          refine wl (ro_move rfl) ?_
          refine wl (ro_lenS rfl st_9) ?_
          refine wl (ro_cmp rfl rfl rfl) ?_
          refine wl_fork rfl (fun hg172 => ?_) (fun hg172 => ?_)
          · try simp only [decide_eq_true_eq, decide_eq_false_iff_not, Bool.not_eq_true', Bool.not_eq_false', Bool.not_eq_eq_eq_not, Bool.not_true, Bool.not_false, beq_iff_eq, bne_iff_ne, ne_eq, beq_eq_false_iff_ne, bne_eq_false_iff_eq, gt_iff_lt, ge_iff_le, Int.not_lt, Int.not_le] at hg172
            obtain ⟨cd, hcd⟩ : ∃ cd, src[twk isDig src q]? = some cd := ⟨_, List.getElem?_eq_getElem (by omega)⟩
            obtain ⟨ce, hce⟩ : ∃ ce, src[twk isDig src q + 1]? = some ce := ⟨_, List.getElem?_eq_getElem (by omega)⟩
            refine wlg_yes rfl (ro_move rfl) ?_
            refine wlg_yes rfl (ro_move rfl) ?_
            refine wlg_yes rfl (ro_indexS rfl rfl st_9 rfl (hcd)) ?_
            refine wlg_yes rfl (ro_cmp rfl rfl rfl) ?_
            refine wl (ro_pick rfl rfl rfl) ?_
            refine wl_fork rfl (fun hg178 => ?_) (fun hg178 => ?_)
            · try simp only [decide_eq_true_eq, decide_eq_false_iff_not, Bool.not_eq_true', Bool.not_eq_false', Bool.not_eq_eq_eq_not, Bool.not_true, Bool.not_false, beq_iff_eq, bne_iff_ne, ne_eq, beq_eq_false_iff_ne, bne_eq_false_iff_eq, gt_iff_lt, ge_iff_le, Int.not_lt, Int.not_le] at hg178
              refine wlg_yes rfl (ro_move rfl) ?_
              refine wlg_yes rfl (ro_move rfl) ?_
              refine wlg_yes rfl (ro_arith rfl rfl rfl (Go.IntWalk.i64_in _ (by omega))) ?_
              refine wlg_yes rfl (ro_indexS rfl rfl st_9 rfl (hce)) ?_
              refine wlg_call rfl rfl en_101 (digit101) ?_
              rintro _ _ ⟨rfl, rfl⟩
              refine wl (ro_pick rfl rfl rfl) ?_
              refine wl_nil (x_then (hK42 _ _ ?_))
              clear hK42 K42
              refine wc_cond rfl (fun hc184 => ?_) (fun hc184 => ?_)
              · try simp only [decide_eq_true_eq, decide_eq_false_iff_not, Bool.not_eq_true', Bool.not_eq_false', Bool.not_eq_eq_eq_not, Bool.not_true, Bool.not_false, beq_iff_eq, bne_iff_ne, ne_eq, beq_eq_false_iff_ne, bne_eq_false_iff_eq, gt_iff_lt, ge_iff_le, Int.not_lt, Int.not_le] at hc184
                have h46 : cd = 46 := (u8_beq cd 46 (by decide)).2 (by omega)
                subst h46
                have hnE := numE_a (i := q) hcd (by rw [dgA_at hce]; exact hc184)
                refine c_seq (fun K43 hK43 => ?_)
                refine c_reg ?_ -- region 27 syntaxm.go:116
                refine wl (ro_move rfl) ?_
                refine wl (ro_arith rfl rfl rfl (Go.IntWalk.i64_in _ (by omega))) ?_
                refine wl (ro_assign rfl) ?_
                refine wl_nil (x_then (hK43 _ _ ?_))
                clear hK43 K43
                refine c_block ?_
                -- loop@r28: live slots [0, 2, 4, 6]
                refine c_loopG (fun n a' w' => ∃ j, n = src.length - j ∧ twk isDig src q + 1 ≤ j ∧ j ≤ src.length ∧ twk (isDig) src j = twk (isDig) src (twk isDig src q + 1) ∧ Blk w'.heap mp [np, S src, i64c q, k1, k2, k3, k4, k5, x1, x2, x3, x4, x5, x6] 146 ∧ Fram (one mp) w w' ∧ ∃ e, a' = Fr 385 (upds e [(0, ptr mp), (2, S src), (4, i64c q), (5, u8c c), (6, i64c j)]) []) (src.length - (twk isDig src q + 1)) ⟨twk isDig src q + 1, rfl, Nat.le_refl _, by omega, rfl, hX, hF, kp _ ⟨rfl, rfl, rfl, rfl, rfl, trivial⟩⟩ ?_
                clear hF hX
                rintro n a' u2 ⟨j, rfl, hqj, hj, hjt, hX, hF, e, rfl⟩
                refine c_seq (fun K44 hK44 => ?_)
                refine c_seq (fun K45 hK45 => ?_)
                refine c_reg ?_ -- region 28 syntaxm.go:117
                refine wl (ro_move rfl) ?_
                refine wl (ro_move rfl) ?_
                refine wl (ro_lenS rfl st_9) ?_
                refine wl (ro_cmp rfl rfl rfl) ?_
                refine wl_fork rfl (fun hg191 => ?_) (fun hg191 => ?_)
                · try simp only [decide_eq_true_eq, decide_eq_false_iff_not, Bool.not_eq_true', Bool.not_eq_false', Bool.not_eq_eq_eq_not, Bool.not_true, Bool.not_false, beq_iff_eq, bne_iff_ne, ne_eq, beq_eq_false_iff_ne, bne_eq_false_iff_eq, gt_iff_lt, ge_iff_le, Int.not_lt, Int.not_le] at hg191
                  obtain ⟨c2, hc2⟩ : ∃ c2, src[j]? = some c2 := ⟨_, List.getElem?_eq_getElem (by omega)⟩
                  refine wlg_yes rfl (ro_move rfl) ?_
                  refine wlg_yes rfl (ro_move rfl) ?_
                  refine wlg_yes rfl (ro_indexS rfl rfl st_9 rfl (hc2)) ?_
                  refine wlg_call rfl rfl en_101 (digit101) ?_
                  rintro _ _ ⟨rfl, rfl⟩
                  refine wl (ro_pick rfl rfl rfl) ?_
                  refine wl_nil (x_then (hK45 _ _ ?_))
                  clear hK45 K45
                  refine wc_cond rfl (fun hc196 => ?_) (fun hc196 => ?_)
                  · try simp only [decide_eq_true_eq, decide_eq_false_iff_not, Bool.not_eq_true', Bool.not_eq_false', Bool.not_eq_eq_eq_not, Bool.not_true, Bool.not_false, beq_iff_eq, bne_iff_ne, ne_eq, beq_eq_false_iff_ne, bne_eq_false_iff_eq, gt_iff_lt, ge_iff_le, Int.not_lt, Int.not_le] at hc196
                    refine c_skip (x_then (hK44 _ _ ?_))
                    clear hK44 K44
                    refine c_block ?_
                    refine c_reg ?_ -- region 29 syntaxm.go:118
                    refine wl (ro_move rfl) ?_
                    refine wl (ro_arith rfl rfl rfl (Go.IntWalk.i64_in _ (by omega))) ?_
                    refine wl (ro_assign rfl) ?_
                    refine wl_nil (x_blk (x_then ?_))
                    exact ⟨src.length - (j + 1), by omega, j + 1, rfl, by omega, by omega, by rw [twk_step hc2 hc196]; exact hjt, hX, hF, kp _ ⟨rfl, rfl, rfl, rfl, rfl, trivial⟩⟩
                  · try simp only [decide_eq_true_eq, decide_eq_false_iff_not, Bool.not_eq_true', Bool.not_eq_false', Bool.not_eq_eq_eq_not, Bool.not_true, Bool.not_false, beq_iff_eq, bne_iff_ne, ne_eq, beq_eq_false_iff_ne, bne_eq_false_iff_eq, gt_iff_lt, ge_iff_le, Int.not_lt, Int.not_le] at hc196
                    refine c_exit (x_thenX (x_thenX (x_blkX (x_then ?_))))
                    first
                    | exact ⟨hX, hF, kp _ ⟨rfl, rfl, rfl, rfl, congrArg (fun z : Nat => some (i64c z)) (hnE.symm), trivial⟩⟩
                    | (have hjj : twk isDig src j = j := by
                         first
                         | exact twk_end (by omega)
                         | exact twk_stop hc2 hc196
                         | exact twk_stop hc2 hc213
                       have hjw : j = numE src q := by rw [hnE, ← hjt]; exact hjj.symm
                       exact ⟨hX, hF, kp _ ⟨rfl, rfl, rfl, rfl, congrArg (fun z : Nat => some (i64c z)) hjw, trivial⟩⟩)
                · try simp only [decide_eq_true_eq, decide_eq_false_iff_not, Bool.not_eq_true', Bool.not_eq_false', Bool.not_eq_eq_eq_not, Bool.not_true, Bool.not_false, beq_iff_eq, bne_iff_ne, ne_eq, beq_eq_false_iff_ne, bne_eq_false_iff_eq, gt_iff_lt, ge_iff_le, Int.not_lt, Int.not_le] at hg191
                  refine wlg_no rfl ?_
                  refine wlg_no rfl ?_
                  refine wlg_no rfl ?_
                  refine wlg_no rfl ?_
                  refine wl (ro_pick rfl rfl rfl) ?_
                  refine wl_nil (x_then (hK45 _ _ ?_))
                  clear hK45 K45
                  refine wc_condF rfl ?_
                  refine c_exit (x_thenX (x_thenX (x_blkX (x_then ?_))))
                  first
                  | exact ⟨hX, hF, kp _ ⟨rfl, rfl, rfl, rfl, congrArg (fun z : Nat => some (i64c z)) (hnE.symm), trivial⟩⟩
                  | (have hjj : twk isDig src j = j := by
                       first
                       | exact twk_end (by omega)
                       | exact twk_stop hc2 hc196
                       | exact twk_stop hc2 hc213
                     have hjw : j = numE src q := by rw [hnE, ← hjt]; exact hjj.symm
                     exact ⟨hX, hF, kp _ ⟨rfl, rfl, rfl, rfl, congrArg (fun z : Nat => some (i64c z)) hjw, trivial⟩⟩)
              · try simp only [decide_eq_true_eq, decide_eq_false_iff_not, Bool.not_eq_true', Bool.not_eq_false', Bool.not_eq_eq_eq_not, Bool.not_true, Bool.not_false, beq_iff_eq, bne_iff_ne, ne_eq, beq_eq_false_iff_ne, bne_eq_false_iff_eq, gt_iff_lt, ge_iff_le, Int.not_lt, Int.not_le] at hc184
                refine c_seq (fun K46 hK46 => ?_)
                have hno : ¬ (src[twk isDig src q]? = some 46 ∧ dgA src (twk isDig src q + 1) = true) := by
                  first
                  | exact fun h => by have := dgA_lt h.2; omega
                  | exact fun h => by have h1 := h.1; rw [hcd] at h1; cases h1; exact hg178 rfl
                  | exact fun h => by have h2 := h.2; rw [dgA_at hce, hc184] at h2; cases h2
                refine c_reg ?_ -- region 30 syntaxm.go:120
                refine wl (ro_move rfl) ?_
                refine wl (ro_move rfl) ?_
                refine wl_call rfl en_102 (power102 (by omega) (by omega)) ?_
                rintro _ _ ⟨rfl, rfl⟩
                refine wl_nil (x_then (hK46 _ _ ?_))
                clear hK46 K46
                refine wc_cond rfl (fun hc201 => ?_) (fun hc201 => ?_)
                · try simp only [decide_eq_true_eq, decide_eq_false_iff_not, Bool.not_eq_true', Bool.not_eq_false', Bool.not_eq_eq_eq_not, Bool.not_true, Bool.not_false, beq_iff_eq, bne_iff_ne, ne_eq, beq_eq_false_iff_ne, bne_eq_false_iff_eq, gt_iff_lt, ge_iff_le, Int.not_lt, Int.not_le] at hc201
                  have hnE := numE_p (i := q) hc201
                  have hp2 := powB_le hc201
                  refine c_seq (fun K47 hK47 => ?_)
                  refine c_reg ?_ -- region 31 syntaxm.go:121
                  refine wl (ro_move rfl) ?_
                  refine wl (ro_arith rfl rfl rfl (Go.IntWalk.i64_in _ (by omega))) ?_
                  refine wl (ro_assign rfl) ?_
                  refine wl_nil (x_then (hK47 _ _ ?_))
                  clear hK47 K47
                  refine c_block ?_
                  -- loop@r32: live slots [0, 2, 4, 6]
                  refine c_loopG (fun n a' w' => ∃ j, n = src.length - j ∧ twk isDig src q + 2 ≤ j ∧ j ≤ src.length ∧ twk (isDig) src j = twk (isDig) src (twk isDig src q + 2) ∧ Blk w'.heap mp [np, S src, i64c q, k1, k2, k3, k4, k5, x1, x2, x3, x4, x5, x6] 146 ∧ Fram (one mp) w w' ∧ ∃ e, a' = Fr 385 (upds e [(0, ptr mp), (2, S src), (4, i64c q), (5, u8c c), (6, i64c j)]) []) (src.length - (twk isDig src q + 2)) ⟨twk isDig src q + 2, rfl, Nat.le_refl _, by omega, rfl, hX, hF, kp _ ⟨rfl, rfl, rfl, rfl, rfl, trivial⟩⟩ ?_
                  clear hF hX
                  rintro n a' u2 ⟨j, rfl, hqj, hj, hjt, hX, hF, e, rfl⟩
                  refine c_seq (fun K48 hK48 => ?_)
                  refine c_seq (fun K49 hK49 => ?_)
                  refine c_reg ?_ -- region 32 syntaxm.go:122
                  refine wl (ro_move rfl) ?_
                  refine wl (ro_move rfl) ?_
                  refine wl (ro_lenS rfl st_9) ?_
                  refine wl (ro_cmp rfl rfl rfl) ?_
                  refine wl_fork rfl (fun hg208 => ?_) (fun hg208 => ?_)
                  · try simp only [decide_eq_true_eq, decide_eq_false_iff_not, Bool.not_eq_true', Bool.not_eq_false', Bool.not_eq_eq_eq_not, Bool.not_true, Bool.not_false, beq_iff_eq, bne_iff_ne, ne_eq, beq_eq_false_iff_ne, bne_eq_false_iff_eq, gt_iff_lt, ge_iff_le, Int.not_lt, Int.not_le] at hg208
                    obtain ⟨c2, hc2⟩ : ∃ c2, src[j]? = some c2 := ⟨_, List.getElem?_eq_getElem (by omega)⟩
                    refine wlg_yes rfl (ro_move rfl) ?_
                    refine wlg_yes rfl (ro_move rfl) ?_
                    refine wlg_yes rfl (ro_indexS rfl rfl st_9 rfl (hc2)) ?_
                    refine wlg_call rfl rfl en_101 (digit101) ?_
                    rintro _ _ ⟨rfl, rfl⟩
                    refine wl (ro_pick rfl rfl rfl) ?_
                    refine wl_nil (x_then (hK49 _ _ ?_))
                    clear hK49 K49
                    refine wc_cond rfl (fun hc213 => ?_) (fun hc213 => ?_)
                    · try simp only [decide_eq_true_eq, decide_eq_false_iff_not, Bool.not_eq_true', Bool.not_eq_false', Bool.not_eq_eq_eq_not, Bool.not_true, Bool.not_false, beq_iff_eq, bne_iff_ne, ne_eq, beq_eq_false_iff_ne, bne_eq_false_iff_eq, gt_iff_lt, ge_iff_le, Int.not_lt, Int.not_le] at hc213
                      refine c_skip (x_then (hK48 _ _ ?_))
                      clear hK48 K48
                      refine c_block ?_
                      refine c_reg ?_ -- region 33 syntaxm.go:123
                      refine wl (ro_move rfl) ?_
                      refine wl (ro_arith rfl rfl rfl (Go.IntWalk.i64_in _ (by omega))) ?_
                      refine wl (ro_assign rfl) ?_
                      refine wl_nil (x_blk (x_then ?_))
                      exact ⟨src.length - (j + 1), by omega, j + 1, rfl, by omega, by omega, by rw [twk_step hc2 hc213]; exact hjt, hX, hF, kp _ ⟨rfl, rfl, rfl, rfl, rfl, trivial⟩⟩
                    · try simp only [decide_eq_true_eq, decide_eq_false_iff_not, Bool.not_eq_true', Bool.not_eq_false', Bool.not_eq_eq_eq_not, Bool.not_true, Bool.not_false, beq_iff_eq, bne_iff_ne, ne_eq, beq_eq_false_iff_ne, bne_eq_false_iff_eq, gt_iff_lt, ge_iff_le, Int.not_lt, Int.not_le] at hc213
                      refine c_exit (x_thenX (x_thenX (x_blkX (x_then ?_))))
                      first
                      | exact ⟨hX, hF, kp _ ⟨rfl, rfl, rfl, rfl, congrArg (fun z : Nat => some (i64c z)) (hnE.symm), trivial⟩⟩
                      | (have hjj : twk isDig src j = j := by
                           first
                           | exact twk_end (by omega)
                           | exact twk_stop hc2 hc196
                           | exact twk_stop hc2 hc213
                         have hjw : j = numE src q := by rw [hnE, ← hjt]; exact hjj.symm
                         exact ⟨hX, hF, kp _ ⟨rfl, rfl, rfl, rfl, congrArg (fun z : Nat => some (i64c z)) hjw, trivial⟩⟩)
                  · try simp only [decide_eq_true_eq, decide_eq_false_iff_not, Bool.not_eq_true', Bool.not_eq_false', Bool.not_eq_eq_eq_not, Bool.not_true, Bool.not_false, beq_iff_eq, bne_iff_ne, ne_eq, beq_eq_false_iff_ne, bne_eq_false_iff_eq, gt_iff_lt, ge_iff_le, Int.not_lt, Int.not_le] at hg208
                    refine wlg_no rfl ?_
                    refine wlg_no rfl ?_
                    refine wlg_no rfl ?_
                    refine wlg_no rfl ?_
                    refine wl (ro_pick rfl rfl rfl) ?_
                    refine wl_nil (x_then (hK49 _ _ ?_))
                    clear hK49 K49
                    refine wc_condF rfl ?_
                    refine c_exit (x_thenX (x_thenX (x_blkX (x_then ?_))))
                    first
                    | exact ⟨hX, hF, kp _ ⟨rfl, rfl, rfl, rfl, congrArg (fun z : Nat => some (i64c z)) (hnE.symm), trivial⟩⟩
                    | (have hjj : twk isDig src j = j := by
                         first
                         | exact twk_end (by omega)
                         | exact twk_stop hc2 hc196
                         | exact twk_stop hc2 hc213
                       have hjw : j = numE src q := by rw [hnE, ← hjt]; exact hjj.symm
                       exact ⟨hX, hF, kp _ ⟨rfl, rfl, rfl, rfl, congrArg (fun z : Nat => some (i64c z)) hjw, trivial⟩⟩)
                · try simp only [decide_eq_true_eq, decide_eq_false_iff_not, Bool.not_eq_true', Bool.not_eq_false', Bool.not_eq_eq_eq_not, Bool.not_true, Bool.not_false, beq_iff_eq, bne_iff_ne, ne_eq, beq_eq_false_iff_ne, bne_eq_false_iff_eq, gt_iff_lt, ge_iff_le, Int.not_lt, Int.not_le] at hc201
                  have hnE := numE_n hno hc201
                  refine c_skip (x_then ?_)
                  first
                  | exact ⟨hX, hF, kp _ ⟨rfl, rfl, rfl, rfl, congrArg (fun z : Nat => some (i64c z)) (hnE.symm), trivial⟩⟩
                  | (have hjj : twk isDig src j = j := by
                       first
                       | exact twk_end (by omega)
                       | exact twk_stop hc2 hc196
                       | exact twk_stop hc2 hc213
                     have hjw : j = numE src q := by rw [hnE, ← hjt]; exact hjj.symm
                     exact ⟨hX, hF, kp _ ⟨rfl, rfl, rfl, rfl, congrArg (fun z : Nat => some (i64c z)) hjw, trivial⟩⟩)
            · try simp only [decide_eq_true_eq, decide_eq_false_iff_not, Bool.not_eq_true', Bool.not_eq_false', Bool.not_eq_eq_eq_not, Bool.not_true, Bool.not_false, beq_iff_eq, bne_iff_ne, ne_eq, beq_eq_false_iff_ne, bne_eq_false_iff_eq, gt_iff_lt, ge_iff_le, Int.not_lt, Int.not_le] at hg178
              refine wlg_no rfl ?_
              refine wlg_no rfl ?_
              refine wlg_no rfl ?_
              refine wlg_no rfl ?_
              refine wlg_no rfl ?_
              refine wl (ro_pick rfl rfl rfl) ?_
              refine wl_nil (x_then (hK42 _ _ ?_))
              clear hK42 K42
              refine wc_condF rfl ?_
              refine c_seq (fun K50 hK50 => ?_)
              have hno : ¬ (src[twk isDig src q]? = some 46 ∧ dgA src (twk isDig src q + 1) = true) := by
                first
                | exact fun h => by have := dgA_lt h.2; omega
                | exact fun h => by have h1 := h.1; rw [hcd] at h1; cases h1; exact hg178 rfl
                | exact fun h => by have h2 := h.2; rw [dgA_at hce, hc184] at h2; cases h2
              refine c_reg ?_ -- region 30 syntaxm.go:120
              refine wl (ro_move rfl) ?_
              refine wl (ro_move rfl) ?_
              refine wl_call rfl en_102 (power102 (by omega) (by omega)) ?_
              rintro _ _ ⟨rfl, rfl⟩
              refine wl_nil (x_then (hK50 _ _ ?_))
              clear hK50 K50
              refine wc_cond rfl (fun hc201 => ?_) (fun hc201 => ?_)
              · try simp only [decide_eq_true_eq, decide_eq_false_iff_not, Bool.not_eq_true', Bool.not_eq_false', Bool.not_eq_eq_eq_not, Bool.not_true, Bool.not_false, beq_iff_eq, bne_iff_ne, ne_eq, beq_eq_false_iff_ne, bne_eq_false_iff_eq, gt_iff_lt, ge_iff_le, Int.not_lt, Int.not_le] at hc201
                have hnE := numE_p (i := q) hc201
                have hp2 := powB_le hc201
                refine c_seq (fun K51 hK51 => ?_)
                refine c_reg ?_ -- region 31 syntaxm.go:121
                refine wl (ro_move rfl) ?_
                refine wl (ro_arith rfl rfl rfl (Go.IntWalk.i64_in _ (by omega))) ?_
                refine wl (ro_assign rfl) ?_
                refine wl_nil (x_then (hK51 _ _ ?_))
                clear hK51 K51
                refine c_block ?_
                -- loop@r32: live slots [0, 2, 4, 6]
                refine c_loopG (fun n a' w' => ∃ j, n = src.length - j ∧ twk isDig src q + 2 ≤ j ∧ j ≤ src.length ∧ twk (isDig) src j = twk (isDig) src (twk isDig src q + 2) ∧ Blk w'.heap mp [np, S src, i64c q, k1, k2, k3, k4, k5, x1, x2, x3, x4, x5, x6] 146 ∧ Fram (one mp) w w' ∧ ∃ e, a' = Fr 385 (upds e [(0, ptr mp), (2, S src), (4, i64c q), (5, u8c c), (6, i64c j)]) []) (src.length - (twk isDig src q + 2)) ⟨twk isDig src q + 2, rfl, Nat.le_refl _, by omega, rfl, hX, hF, kp _ ⟨rfl, rfl, rfl, rfl, rfl, trivial⟩⟩ ?_
                clear hF hX
                rintro n a' u2 ⟨j, rfl, hqj, hj, hjt, hX, hF, e, rfl⟩
                refine c_seq (fun K52 hK52 => ?_)
                refine c_seq (fun K53 hK53 => ?_)
                refine c_reg ?_ -- region 32 syntaxm.go:122
                refine wl (ro_move rfl) ?_
                refine wl (ro_move rfl) ?_
                refine wl (ro_lenS rfl st_9) ?_
                refine wl (ro_cmp rfl rfl rfl) ?_
                refine wl_fork rfl (fun hg208 => ?_) (fun hg208 => ?_)
                · try simp only [decide_eq_true_eq, decide_eq_false_iff_not, Bool.not_eq_true', Bool.not_eq_false', Bool.not_eq_eq_eq_not, Bool.not_true, Bool.not_false, beq_iff_eq, bne_iff_ne, ne_eq, beq_eq_false_iff_ne, bne_eq_false_iff_eq, gt_iff_lt, ge_iff_le, Int.not_lt, Int.not_le] at hg208
                  obtain ⟨c2, hc2⟩ : ∃ c2, src[j]? = some c2 := ⟨_, List.getElem?_eq_getElem (by omega)⟩
                  refine wlg_yes rfl (ro_move rfl) ?_
                  refine wlg_yes rfl (ro_move rfl) ?_
                  refine wlg_yes rfl (ro_indexS rfl rfl st_9 rfl (hc2)) ?_
                  refine wlg_call rfl rfl en_101 (digit101) ?_
                  rintro _ _ ⟨rfl, rfl⟩
                  refine wl (ro_pick rfl rfl rfl) ?_
                  refine wl_nil (x_then (hK53 _ _ ?_))
                  clear hK53 K53
                  refine wc_cond rfl (fun hc213 => ?_) (fun hc213 => ?_)
                  · try simp only [decide_eq_true_eq, decide_eq_false_iff_not, Bool.not_eq_true', Bool.not_eq_false', Bool.not_eq_eq_eq_not, Bool.not_true, Bool.not_false, beq_iff_eq, bne_iff_ne, ne_eq, beq_eq_false_iff_ne, bne_eq_false_iff_eq, gt_iff_lt, ge_iff_le, Int.not_lt, Int.not_le] at hc213
                    refine c_skip (x_then (hK52 _ _ ?_))
                    clear hK52 K52
                    refine c_block ?_
                    refine c_reg ?_ -- region 33 syntaxm.go:123
                    refine wl (ro_move rfl) ?_
                    refine wl (ro_arith rfl rfl rfl (Go.IntWalk.i64_in _ (by omega))) ?_
                    refine wl (ro_assign rfl) ?_
                    refine wl_nil (x_blk (x_then ?_))
                    exact ⟨src.length - (j + 1), by omega, j + 1, rfl, by omega, by omega, by rw [twk_step hc2 hc213]; exact hjt, hX, hF, kp _ ⟨rfl, rfl, rfl, rfl, rfl, trivial⟩⟩
                  · try simp only [decide_eq_true_eq, decide_eq_false_iff_not, Bool.not_eq_true', Bool.not_eq_false', Bool.not_eq_eq_eq_not, Bool.not_true, Bool.not_false, beq_iff_eq, bne_iff_ne, ne_eq, beq_eq_false_iff_ne, bne_eq_false_iff_eq, gt_iff_lt, ge_iff_le, Int.not_lt, Int.not_le] at hc213
                    refine c_exit (x_thenX (x_thenX (x_blkX (x_then ?_))))
                    first
                    | exact ⟨hX, hF, kp _ ⟨rfl, rfl, rfl, rfl, congrArg (fun z : Nat => some (i64c z)) (hnE.symm), trivial⟩⟩
                    | (have hjj : twk isDig src j = j := by
                         first
                         | exact twk_end (by omega)
                         | exact twk_stop hc2 hc196
                         | exact twk_stop hc2 hc213
                       have hjw : j = numE src q := by rw [hnE, ← hjt]; exact hjj.symm
                       exact ⟨hX, hF, kp _ ⟨rfl, rfl, rfl, rfl, congrArg (fun z : Nat => some (i64c z)) hjw, trivial⟩⟩)
                · try simp only [decide_eq_true_eq, decide_eq_false_iff_not, Bool.not_eq_true', Bool.not_eq_false', Bool.not_eq_eq_eq_not, Bool.not_true, Bool.not_false, beq_iff_eq, bne_iff_ne, ne_eq, beq_eq_false_iff_ne, bne_eq_false_iff_eq, gt_iff_lt, ge_iff_le, Int.not_lt, Int.not_le] at hg208
                  refine wlg_no rfl ?_
                  refine wlg_no rfl ?_
                  refine wlg_no rfl ?_
                  refine wlg_no rfl ?_
                  refine wl (ro_pick rfl rfl rfl) ?_
                  refine wl_nil (x_then (hK53 _ _ ?_))
                  clear hK53 K53
                  refine wc_condF rfl ?_
                  refine c_exit (x_thenX (x_thenX (x_blkX (x_then ?_))))
                  first
                  | exact ⟨hX, hF, kp _ ⟨rfl, rfl, rfl, rfl, congrArg (fun z : Nat => some (i64c z)) (hnE.symm), trivial⟩⟩
                  | (have hjj : twk isDig src j = j := by
                       first
                       | exact twk_end (by omega)
                       | exact twk_stop hc2 hc196
                       | exact twk_stop hc2 hc213
                     have hjw : j = numE src q := by rw [hnE, ← hjt]; exact hjj.symm
                     exact ⟨hX, hF, kp _ ⟨rfl, rfl, rfl, rfl, congrArg (fun z : Nat => some (i64c z)) hjw, trivial⟩⟩)
              · try simp only [decide_eq_true_eq, decide_eq_false_iff_not, Bool.not_eq_true', Bool.not_eq_false', Bool.not_eq_eq_eq_not, Bool.not_true, Bool.not_false, beq_iff_eq, bne_iff_ne, ne_eq, beq_eq_false_iff_ne, bne_eq_false_iff_eq, gt_iff_lt, ge_iff_le, Int.not_lt, Int.not_le] at hc201
                have hnE := numE_n hno hc201
                refine c_skip (x_then ?_)
                first
                | exact ⟨hX, hF, kp _ ⟨rfl, rfl, rfl, rfl, congrArg (fun z : Nat => some (i64c z)) (hnE.symm), trivial⟩⟩
                | (have hjj : twk isDig src j = j := by
                     first
                     | exact twk_end (by omega)
                     | exact twk_stop hc2 hc196
                     | exact twk_stop hc2 hc213
                   have hjw : j = numE src q := by rw [hnE, ← hjt]; exact hjj.symm
                   exact ⟨hX, hF, kp _ ⟨rfl, rfl, rfl, rfl, congrArg (fun z : Nat => some (i64c z)) hjw, trivial⟩⟩)
          · try simp only [decide_eq_true_eq, decide_eq_false_iff_not, Bool.not_eq_true', Bool.not_eq_false', Bool.not_eq_eq_eq_not, Bool.not_true, Bool.not_false, beq_iff_eq, bne_iff_ne, ne_eq, beq_eq_false_iff_ne, bne_eq_false_iff_eq, gt_iff_lt, ge_iff_le, Int.not_lt, Int.not_le] at hg172
            refine wlg_no rfl ?_
            refine wlg_no rfl ?_
            refine wlg_no rfl ?_
            refine wlg_no rfl ?_
            refine wl (ro_pick rfl rfl rfl) ?_
            refine wl (ro_move rfl) ?_
            refine wlg_no rfl ?_
            refine wlg_no rfl ?_
            refine wlg_no rfl ?_
            refine wlg_no rfl ?_
            refine wlg_no rfl ?_
            refine wl (ro_pick rfl rfl rfl) ?_
            refine wl_nil (x_then (hK42 _ _ ?_))
            clear hK42 K42
            refine wc_condF rfl ?_
            refine c_seq (fun K54 hK54 => ?_)
            have hno : ¬ (src[twk isDig src q]? = some 46 ∧ dgA src (twk isDig src q + 1) = true) := by
              first
              | exact fun h => by have := dgA_lt h.2; omega
              | exact fun h => by have h1 := h.1; rw [hcd] at h1; cases h1; exact hg178 rfl
              | exact fun h => by have h2 := h.2; rw [dgA_at hce, hc184] at h2; cases h2
            refine c_reg ?_ -- region 30 syntaxm.go:120
            refine wl (ro_move rfl) ?_
            refine wl (ro_move rfl) ?_
            refine wl_call rfl en_102 (power102 (by omega) (by omega)) ?_
            rintro _ _ ⟨rfl, rfl⟩
            refine wl_nil (x_then (hK54 _ _ ?_))
            clear hK54 K54
            refine wc_cond rfl (fun hc201 => ?_) (fun hc201 => ?_)
            · try simp only [decide_eq_true_eq, decide_eq_false_iff_not, Bool.not_eq_true', Bool.not_eq_false', Bool.not_eq_eq_eq_not, Bool.not_true, Bool.not_false, beq_iff_eq, bne_iff_ne, ne_eq, beq_eq_false_iff_ne, bne_eq_false_iff_eq, gt_iff_lt, ge_iff_le, Int.not_lt, Int.not_le] at hc201
              have hnE := numE_p (i := q) hc201
              have hp2 := powB_le hc201
              refine c_seq (fun K55 hK55 => ?_)
              refine c_reg ?_ -- region 31 syntaxm.go:121
              refine wl (ro_move rfl) ?_
              refine wl (ro_arith rfl rfl rfl (Go.IntWalk.i64_in _ (by omega))) ?_
              refine wl (ro_assign rfl) ?_
              refine wl_nil (x_then (hK55 _ _ ?_))
              clear hK55 K55
              refine c_block ?_
              -- loop@r32: live slots [0, 2, 4, 6]
              refine c_loopG (fun n a' w' => ∃ j, n = src.length - j ∧ twk isDig src q + 2 ≤ j ∧ j ≤ src.length ∧ twk (isDig) src j = twk (isDig) src (twk isDig src q + 2) ∧ Blk w'.heap mp [np, S src, i64c q, k1, k2, k3, k4, k5, x1, x2, x3, x4, x5, x6] 146 ∧ Fram (one mp) w w' ∧ ∃ e, a' = Fr 385 (upds e [(0, ptr mp), (2, S src), (4, i64c q), (5, u8c c), (6, i64c j)]) []) (src.length - (twk isDig src q + 2)) ⟨twk isDig src q + 2, rfl, Nat.le_refl _, by omega, rfl, hX, hF, kp _ ⟨rfl, rfl, rfl, rfl, rfl, trivial⟩⟩ ?_
              clear hF hX
              rintro n a' u2 ⟨j, rfl, hqj, hj, hjt, hX, hF, e, rfl⟩
              refine c_seq (fun K56 hK56 => ?_)
              refine c_seq (fun K57 hK57 => ?_)
              refine c_reg ?_ -- region 32 syntaxm.go:122
              refine wl (ro_move rfl) ?_
              refine wl (ro_move rfl) ?_
              refine wl (ro_lenS rfl st_9) ?_
              refine wl (ro_cmp rfl rfl rfl) ?_
              refine wl_fork rfl (fun hg208 => ?_) (fun hg208 => ?_)
              · try simp only [decide_eq_true_eq, decide_eq_false_iff_not, Bool.not_eq_true', Bool.not_eq_false', Bool.not_eq_eq_eq_not, Bool.not_true, Bool.not_false, beq_iff_eq, bne_iff_ne, ne_eq, beq_eq_false_iff_ne, bne_eq_false_iff_eq, gt_iff_lt, ge_iff_le, Int.not_lt, Int.not_le] at hg208
                obtain ⟨c2, hc2⟩ : ∃ c2, src[j]? = some c2 := ⟨_, List.getElem?_eq_getElem (by omega)⟩
                refine wlg_yes rfl (ro_move rfl) ?_
                refine wlg_yes rfl (ro_move rfl) ?_
                refine wlg_yes rfl (ro_indexS rfl rfl st_9 rfl (hc2)) ?_
                refine wlg_call rfl rfl en_101 (digit101) ?_
                rintro _ _ ⟨rfl, rfl⟩
                refine wl (ro_pick rfl rfl rfl) ?_
                refine wl_nil (x_then (hK57 _ _ ?_))
                clear hK57 K57
                refine wc_cond rfl (fun hc213 => ?_) (fun hc213 => ?_)
                · try simp only [decide_eq_true_eq, decide_eq_false_iff_not, Bool.not_eq_true', Bool.not_eq_false', Bool.not_eq_eq_eq_not, Bool.not_true, Bool.not_false, beq_iff_eq, bne_iff_ne, ne_eq, beq_eq_false_iff_ne, bne_eq_false_iff_eq, gt_iff_lt, ge_iff_le, Int.not_lt, Int.not_le] at hc213
                  refine c_skip (x_then (hK56 _ _ ?_))
                  clear hK56 K56
                  refine c_block ?_
                  refine c_reg ?_ -- region 33 syntaxm.go:123
                  refine wl (ro_move rfl) ?_
                  refine wl (ro_arith rfl rfl rfl (Go.IntWalk.i64_in _ (by omega))) ?_
                  refine wl (ro_assign rfl) ?_
                  refine wl_nil (x_blk (x_then ?_))
                  exact ⟨src.length - (j + 1), by omega, j + 1, rfl, by omega, by omega, by rw [twk_step hc2 hc213]; exact hjt, hX, hF, kp _ ⟨rfl, rfl, rfl, rfl, rfl, trivial⟩⟩
                · try simp only [decide_eq_true_eq, decide_eq_false_iff_not, Bool.not_eq_true', Bool.not_eq_false', Bool.not_eq_eq_eq_not, Bool.not_true, Bool.not_false, beq_iff_eq, bne_iff_ne, ne_eq, beq_eq_false_iff_ne, bne_eq_false_iff_eq, gt_iff_lt, ge_iff_le, Int.not_lt, Int.not_le] at hc213
                  refine c_exit (x_thenX (x_thenX (x_blkX (x_then ?_))))
                  first
                  | exact ⟨hX, hF, kp _ ⟨rfl, rfl, rfl, rfl, congrArg (fun z : Nat => some (i64c z)) (hnE.symm), trivial⟩⟩
                  | (have hjj : twk isDig src j = j := by
                       first
                       | exact twk_end (by omega)
                       | exact twk_stop hc2 hc196
                       | exact twk_stop hc2 hc213
                     have hjw : j = numE src q := by rw [hnE, ← hjt]; exact hjj.symm
                     exact ⟨hX, hF, kp _ ⟨rfl, rfl, rfl, rfl, congrArg (fun z : Nat => some (i64c z)) hjw, trivial⟩⟩)
              · try simp only [decide_eq_true_eq, decide_eq_false_iff_not, Bool.not_eq_true', Bool.not_eq_false', Bool.not_eq_eq_eq_not, Bool.not_true, Bool.not_false, beq_iff_eq, bne_iff_ne, ne_eq, beq_eq_false_iff_ne, bne_eq_false_iff_eq, gt_iff_lt, ge_iff_le, Int.not_lt, Int.not_le] at hg208
                refine wlg_no rfl ?_
                refine wlg_no rfl ?_
                refine wlg_no rfl ?_
                refine wlg_no rfl ?_
                refine wl (ro_pick rfl rfl rfl) ?_
                refine wl_nil (x_then (hK57 _ _ ?_))
                clear hK57 K57
                refine wc_condF rfl ?_
                refine c_exit (x_thenX (x_thenX (x_blkX (x_then ?_))))
                first
                | exact ⟨hX, hF, kp _ ⟨rfl, rfl, rfl, rfl, congrArg (fun z : Nat => some (i64c z)) (hnE.symm), trivial⟩⟩
                | (have hjj : twk isDig src j = j := by
                     first
                     | exact twk_end (by omega)
                     | exact twk_stop hc2 hc196
                     | exact twk_stop hc2 hc213
                   have hjw : j = numE src q := by rw [hnE, ← hjt]; exact hjj.symm
                   exact ⟨hX, hF, kp _ ⟨rfl, rfl, rfl, rfl, congrArg (fun z : Nat => some (i64c z)) hjw, trivial⟩⟩)
            · try simp only [decide_eq_true_eq, decide_eq_false_iff_not, Bool.not_eq_true', Bool.not_eq_false', Bool.not_eq_eq_eq_not, Bool.not_true, Bool.not_false, beq_iff_eq, bne_iff_ne, ne_eq, beq_eq_false_iff_ne, bne_eq_false_iff_eq, gt_iff_lt, ge_iff_le, Int.not_lt, Int.not_le] at hc201
              have hnE := numE_n hno hc201
              refine c_skip (x_then ?_)
              first
              | exact ⟨hX, hF, kp _ ⟨rfl, rfl, rfl, rfl, congrArg (fun z : Nat => some (i64c z)) (hnE.symm), trivial⟩⟩
              | (have hjj : twk isDig src j = j := by
                   first
                   | exact twk_end (by omega)
                   | exact twk_stop hc2 hc196
                   | exact twk_stop hc2 hc213
                 have hjw : j = numE src q := by rw [hnE, ← hjt]; exact hjj.symm
                 exact ⟨hX, hF, kp _ ⟨rfl, rfl, rfl, rfl, congrArg (fun z : Nat => some (i64c z)) hjw, trivial⟩⟩)
        clear hF hX
        rintro a' u2 ⟨hX, hF, e, rfl⟩
        refine c_seq (fun K58 hK58 => ?_)
        obtain ⟨hn1, hn2, _, _, _⟩ := numE_last hc hc154
        have hwl : ((src.drop q).take (numE src q - q)).length = numE src q - q := by rw [List.length_take, List.length_drop]; omega
        rw [hwl] at hA
        refine c_reg ?_ -- region 34 syntaxm.go:126
        refine wl (ro_move rfl) ?_
        refine wl (ro_move rfl) ?_
        refine wl (ro_nilCheck rfl) ?_
        refine wl (ro_fieldAddr (k := 2) rfl fo_146_2) ?_
        refine wl_put rfl rfl rfl sz_3 hX (by simp) (rfl) (fun w15 hX F15 => ?_)
        replace hF := hF.thenDrew.thenO F15 (by first | exact .inr (by omega) | exact .inl rfl | exact .inl (by assumption) | assumption)
        refine wl_nil (x_then (hK58 _ _ ?_))
        clear hK58 K58
        refine forget [(0, _), (2, _), (4, _), (6, _)] ⟨rfl, rfl, rfl, rfl, trivial⟩ (fun e => ?_)
        refine c_seq (fun K59 hK59 => ?_)
        cases hpn : parN ((src.drop q).take (numE src q - q))
        · skip
          refine c_pi [(0, false), (1, false), (2, false), (3, false), (4, false), (5, false), (6, false), (7, false), (8, true), (9, false), (10, false), (11, false), (12, false), (13, false)] (fun u => Blk u.heap mp [np, S src, i64c (numE src q), k1, k2, k3, k4, k5, x1, x2, x3, x4, x5, x6] 146) mixed (by kernel_rfl) rfl (by kernel_rfl) (po_then (po_then (po_bp))) (hX) ?_ -- region 35 syntaxm.go:127
          refine pi_ro rfl (fun w hS => ro_move rfl) ?_
          refine pi_ro rfl (fun w hS => ro_nilCheck rfl) ?_
          refine pi_ro rfl (fun w hS => ro_fieldAddr (k := 0) rfl fo_146_0) ?_
          refine pi_ro rfl (fun w hS => ro_loadB rfl sc_46 (hS) rfl) ?_
          refine pi_ro rfl (fun w hS => ro_move rfl) ?_
          refine pi_ro rfl (fun w hS => ro_move rfl) ?_
          refine pi_ro rfl (fun w hS => ro_move rfl) ?_
          refine pi_ro rfl (fun w hS => ro_sliceSLH (l := q) (h := numE src q) rfl rfl rfl st_9 rfl rfl (by omega) (by omega)) ?_
          refine pi_call rfl rfl en_103 (Parse103 (by rw [hwl]; omega)) ?_
          rintro v _ ⟨hv, rfl⟩
          rw [hpn] at hv hA
          obtain ⟨ee, hee, rfl⟩ : ∃ ee : Int, ee ≠ 0 ∧ v = .tuple #[u64c 0, icv ee] := by
            rcases hv with ⟨x, h, _⟩ | ⟨_, h⟩
            · cases h
            · exact h
          refine ⟨hX, ?_⟩
          refine pi_ro rfl (fun w hS => ro_move rfl) ?_
          refine pi_ro rfl (fun w hS => ro_extract rfl rfl) ?_
          refine pi_ro rfl (fun w hS => ro_extract rfl rfl) ?_
          refine pi_ro rfl (fun w hS => ro_assign rfl) ?_
          refine pi_ro rfl (fun w hS => ro_assign rfl) ?_
          refine pi_nil (x_then (hK59 _ _ ?_))
          clear hK59 K59
          refine c_seq (fun K60 hK60 => ?_)
          refine c_seq (fun K61 hK61 => ?_)
          refine c_reg ?_ -- region 36 syntaxm.go:128
          refine wl (ro_move rfl) ?_
          refine wl (ro_cmp rfl rfl rfl) ?_
          refine wl_nil (x_then (hK61 _ _ ?_))
          clear hK61 K61
          refine wc_cond rfl (fun hc233 => ?_) (fun hc233 => ?_)
          · try simp only [decide_eq_true_eq, decide_eq_false_iff_not, Bool.not_eq_true', Bool.not_eq_false', Bool.not_eq_eq_eq_not, Bool.not_true, Bool.not_false, beq_iff_eq, bne_iff_ne, ne_eq, beq_eq_false_iff_ne, bne_eq_false_iff_eq, gt_iff_lt, ge_iff_le, Int.not_lt, Int.not_le] at hc233
            refine c_seq (fun K62 hK62 => ?_)
            refine c_reg ?_ -- region 37 syntaxm.go:129
            refine wl (ro_move rfl) ?_
            refine wl (ro_move rfl) ?_
            refine wl (ro_build rfl bld_144_0_4_3) ?_
            refine wl (ro_nilCheck rfl) ?_
            refine wl (ro_fieldAddr (k := 3) rfl fo_146_3) ?_
            refine wl_puta rfl rfl ((by simp [Value.oneCell', i64c, u64c, S])) sz_144 (rfl) hX ((by simp)) (rfl) (fun w16 hX F16 => ?_)
            replace hF := hF.thenDrew.thenO F16 (by first | exact .inr (by omega) | exact .inl rfl | exact .inl (by assumption) | assumption)
            refine wl_nil (x_then (hK62 _ _ ?_))
            clear hK62 K62
            refine c_ret (x_thenR (x_thenR ?_))
            refine bp_ret Tryz.results48 rfl ?_
            have h9 := nx_ok (pos' := numE src q) htk hT hA (fun h => by simp at h)
            exact ⟨rfl, hF, _, ⟨1, q, [], 0, 2⟩, hX, hn2, h9.1, h9.2⟩
          · try simp only [decide_eq_true_eq, decide_eq_false_iff_not, Bool.not_eq_true', Bool.not_eq_false', Bool.not_eq_eq_eq_not, Bool.not_true, Bool.not_false, beq_iff_eq, bne_iff_ne, ne_eq, beq_eq_false_iff_ne, bne_eq_false_iff_eq, gt_iff_lt, ge_iff_le, Int.not_lt, Int.not_le] at hc233
            exact absurd hc233 hee
        · skip
          refine c_pi [(0, false), (1, false), (2, false), (3, false), (4, false), (5, false), (6, false), (7, false), (8, true), (9, false), (10, false), (11, false), (12, false), (13, false)] (fun u => Blk u.heap mp [np, S src, i64c (numE src q), k1, k2, k3, k4, k5, x1, x2, x3, x4, x5, x6] 146) mixed (by kernel_rfl) rfl (by kernel_rfl) (po_then (po_then (po_bp))) (hX) ?_ -- region 35 syntaxm.go:127
          refine pi_ro rfl (fun w hS => ro_move rfl) ?_
          refine pi_ro rfl (fun w hS => ro_nilCheck rfl) ?_
          refine pi_ro rfl (fun w hS => ro_fieldAddr (k := 0) rfl fo_146_0) ?_
          refine pi_ro rfl (fun w hS => ro_loadB rfl sc_46 (hS) rfl) ?_
          refine pi_ro rfl (fun w hS => ro_move rfl) ?_
          refine pi_ro rfl (fun w hS => ro_move rfl) ?_
          refine pi_ro rfl (fun w hS => ro_move rfl) ?_
          refine pi_ro rfl (fun w hS => ro_sliceSLH (l := q) (h := numE src q) rfl rfl rfl st_9 rfl rfl (by omega) (by omega)) ?_
          refine pi_call rfl rfl en_103 (Parse103 (by rw [hwl]; omega)) ?_
          rintro v _ ⟨hv, rfl⟩
          rename_i xx
          rw [hpn] at hv hA
          obtain rfl : v = .tuple #[u64c xx, icv 0] := by
            rcases hv with ⟨x, h, h2⟩ | ⟨h, _⟩
            · cases h; exact h2
            · cases h
          refine ⟨hX, ?_⟩
          refine pi_ro rfl (fun w hS => ro_move rfl) ?_
          refine pi_ro rfl (fun w hS => ro_extract rfl rfl) ?_
          refine pi_ro rfl (fun w hS => ro_extract rfl rfl) ?_
          refine pi_ro rfl (fun w hS => ro_assign rfl) ?_
          refine pi_ro rfl (fun w hS => ro_assign rfl) ?_
          refine pi_nil (x_then (hK59 _ _ ?_))
          clear hK59 K59
          refine c_seq (fun K63 hK63 => ?_)
          refine c_seq (fun K64 hK64 => ?_)
          refine c_reg ?_ -- region 36 syntaxm.go:128
          refine wl (ro_move rfl) ?_
          refine wl (ro_cmp rfl rfl rfl) ?_
          refine wl_nil (x_then (hK64 _ _ ?_))
          clear hK64 K64
          refine wc_cond rfl (fun hc233 => ?_) (fun hc233 => ?_)
          · try simp only [decide_eq_true_eq, decide_eq_false_iff_not, Bool.not_eq_true', Bool.not_eq_false', Bool.not_eq_eq_eq_not, Bool.not_true, Bool.not_false, beq_iff_eq, bne_iff_ne, ne_eq, beq_eq_false_iff_ne, bne_eq_false_iff_eq, gt_iff_lt, ge_iff_le, Int.not_lt, Int.not_le] at hc233
            exact absurd trivial hc233
          · try simp only [decide_eq_true_eq, decide_eq_false_iff_not, Bool.not_eq_true', Bool.not_eq_false', Bool.not_eq_eq_eq_not, Bool.not_true, Bool.not_false, beq_iff_eq, bne_iff_ne, ne_eq, beq_eq_false_iff_ne, bne_eq_false_iff_eq, gt_iff_lt, ge_iff_le, Int.not_lt, Int.not_le] at hc233
            refine c_skip (x_then (hK63 _ _ ?_))
            clear hK63 K63
            refine forget [(0, _), (4, _), (8, _)] ⟨rfl, rfl, rfl, trivial⟩ (fun e => ?_)
            refine c_seq (fun K65 hK65 => ?_)
            refine c_reg ?_ -- region 38 syntaxm.go:132
            refine wl (ro_move rfl) ?_
            refine wl (ro_move rfl) ?_
            refine wl (ro_move rfl) ?_
            refine wl (ro_build rfl bld_144_0_2_3) ?_
            refine wl (ro_nilCheck rfl) ?_
            refine wl (ro_fieldAddr (k := 3) rfl fo_146_3) ?_
            refine wl_puta rfl rfl ((by simp [Value.oneCell', i64c, u64c, S])) sz_144 (rfl) hX ((by simp)) (rfl) (fun w17 hX F17 => ?_)
            replace hF := hF.thenDrew.thenO F17 (by first | exact .inr (by omega) | exact .inl rfl | exact .inl (by assumption) | assumption)
            refine wl_nil (x_then (hK65 _ _ ?_))
            clear hK65 K65
            refine c_ret (x_thenR ?_)
            refine bp_ret Tryz.results48 rfl ?_
            have h9 := nx_ok (pos' := numE src q) htk hT hA (fun _ => by omega)
            exact ⟨rfl, hF, _, ⟨3, q, [], xx, 0⟩, hX, hn2, h9.1, h9.2⟩
      · try simp only [decide_eq_true_eq, decide_eq_false_iff_not, Bool.not_eq_true', Bool.not_eq_false', Bool.not_eq_eq_eq_not, Bool.not_true, Bool.not_false, beq_iff_eq, bne_iff_ne, ne_eq, beq_eq_false_iff_ne, bne_eq_false_iff_eq, gt_iff_lt, ge_iff_le, Int.not_lt, Int.not_le] at hc154
        refine c_skip (x_then (hK38 _ _ ?_))
        clear hK38 K38
        refine c_seq (fun K66 hK66 => ?_)
        refine c_seq (fun K67 hK67 => ?_)
        refine c_reg ?_ -- region 39 syntaxm.go:135
        refine wl (ro_move rfl) ?_
        refine wl (ro_cmp rfl rfl rfl) ?_
        refine wl_nil (x_then (hK67 _ _ ?_))
        clear hK67 K67
        refine wc_cond rfl (fun hc246 => ?_) (fun hc246 => ?_)
        · try simp only [decide_eq_true_eq, decide_eq_false_iff_not, Bool.not_eq_true', Bool.not_eq_false', Bool.not_eq_eq_eq_not, Bool.not_true, Bool.not_false, beq_iff_eq, bne_iff_ne, ne_eq, beq_eq_false_iff_ne, bne_eq_false_iff_eq, gt_iff_lt, ge_iff_le, Int.not_lt, Int.not_le] at hc246
          have h34 : c = 34 := (u8_beq c 34 (by decide)).2 (by omega)
          subst h34
          have hA := tok_str hc
          have hJ := twk_le (p := notQ 34) (s := src) (i := q + 1) (by omega)
          refine c_seq (fun K68 hK68 => ?_)
          refine c_reg ?_ -- region 40 syntaxm.go:136
          refine wl (ro_move rfl) ?_
          refine wl (ro_arith rfl rfl rfl (Go.IntWalk.i64_in _ (by omega))) ?_
          refine wl (ro_assign rfl) ?_
          refine wl_nil (x_then (hK68 _ _ ?_))
          clear hK68 K68
          refine forget [(0, _), (2, _), (4, _), (6, _)] ⟨rfl, rfl, rfl, rfl, trivial⟩ (fun e => ?_)
          refine c_mid (fun a' w' => Blk w'.heap mp [np, S src, i64c q, k1, k2, k3, k4, k5, x1, x2, x3, x4, x5, x6] 146 ∧ Fram (one mp) w w' ∧ ∃ e, a' = Fr 385 (upds e [(0, ptr mp), (2, S src), (4, i64c q), (6, i64c (twk (notQ 34) src (q + 1)))]) []) ?_ ?_
          · skip
            refine c_block ?_
            -- loop@r41: live slots [0, 2, 4, 6]
            refine c_loopG (fun n a' w' => ∃ j, n = src.length - j ∧ q + 1 ≤ j ∧ j ≤ src.length ∧ twk (notQ 34) src j = twk (notQ 34) src (q + 1) ∧ Blk w'.heap mp [np, S src, i64c q, k1, k2, k3, k4, k5, x1, x2, x3, x4, x5, x6] 146 ∧ Fram (one mp) w w' ∧ ∃ e, a' = Fr 385 (upds e [(0, ptr mp), (2, S src), (4, i64c q), (6, i64c j)]) []) (src.length - (q + 1)) ⟨q + 1, rfl, Nat.le_refl _, by omega, rfl, hX, hF, kp _ ⟨rfl, rfl, rfl, rfl, trivial⟩⟩ ?_
            clear hF hX
            rintro n a' u2 ⟨j, rfl, hqj, hj, hjt, hX, hF, e, rfl⟩
            refine c_seq (fun K69 hK69 => ?_)
            refine c_seq (fun K70 hK70 => ?_)
            refine c_reg ?_ -- region 41 syntaxm.go:137
            refine wl (ro_move rfl) ?_
            refine wl (ro_move rfl) ?_
            refine wl (ro_lenS rfl st_9) ?_
            refine wl (ro_cmp rfl rfl rfl) ?_
            refine wl_fork rfl (fun hg253 => ?_) (fun hg253 => ?_)
            · try simp only [decide_eq_true_eq, decide_eq_false_iff_not, Bool.not_eq_true', Bool.not_eq_false', Bool.not_eq_eq_eq_not, Bool.not_true, Bool.not_false, beq_iff_eq, bne_iff_ne, ne_eq, beq_eq_false_iff_ne, bne_eq_false_iff_eq, gt_iff_lt, ge_iff_le, Int.not_lt, Int.not_le] at hg253
              obtain ⟨c2, hc2⟩ : ∃ c2, src[j]? = some c2 := ⟨_, List.getElem?_eq_getElem (by omega)⟩
              refine wlg_yes rfl (ro_move rfl) ?_
              refine wlg_yes rfl (ro_move rfl) ?_
              refine wlg_yes rfl (ro_indexS rfl rfl st_9 rfl (hc2)) ?_
              refine wlg_yes rfl (ro_cmp rfl rfl rfl) ?_
              refine wl (ro_pick rfl rfl rfl) ?_
              refine wl_fork rfl (fun hg259 => ?_) (fun hg259 => ?_)
              · try simp only [decide_eq_true_eq, decide_eq_false_iff_not, Bool.not_eq_true', Bool.not_eq_false', Bool.not_eq_eq_eq_not, Bool.not_true, Bool.not_false, beq_iff_eq, bne_iff_ne, ne_eq, beq_eq_false_iff_ne, bne_eq_false_iff_eq, gt_iff_lt, ge_iff_le, Int.not_lt, Int.not_le] at hg259
                refine wlg_yes rfl (ro_move rfl) ?_
                refine wlg_yes rfl (ro_move rfl) ?_
                refine wlg_yes rfl (ro_indexS rfl rfl st_9 rfl (hc2)) ?_
                refine wlg_yes rfl (ro_cmp rfl rfl rfl) ?_
                refine wl (ro_pick rfl rfl rfl) ?_
                refine wl_nil (x_then (hK70 _ _ ?_))
                clear hK70 K70
                refine wc_cond rfl (fun hc264 => ?_) (fun hc264 => ?_)
                · try simp only [decide_eq_true_eq, decide_eq_false_iff_not, Bool.not_eq_true', Bool.not_eq_false', Bool.not_eq_eq_eq_not, Bool.not_true, Bool.not_false, beq_iff_eq, bne_iff_ne, ne_eq, beq_eq_false_iff_ne, bne_eq_false_iff_eq, gt_iff_lt, ge_iff_le, Int.not_lt, Int.not_le] at hc264
                  refine c_skip (x_then (hK69 _ _ ?_))
                  clear hK69 K69
                  refine c_block ?_
                  refine c_reg ?_ -- region 42 syntaxm.go:138
                  refine wl (ro_move rfl) ?_
                  refine wl (ro_arith rfl rfl rfl (Go.IntWalk.i64_in _ (by omega))) ?_
                  refine wl (ro_assign rfl) ?_
                  refine wl_nil (x_blk (x_then ?_))
                  refine ⟨src.length - (j + 1), by omega, j + 1, rfl, by omega, by omega, ?_, hX, hF, kp _ ⟨rfl, rfl, rfl, rfl, trivial⟩⟩
                  rw [twk_step hc2 ?_]
                  · exact hjt
                  · unfold notQ
                    have h1 : c2 ≠ 34 := u8_ne.1 hg259
                    have h2 : c2 ≠ 10 := fun h => hc264 (by rw [h]; rfl)
                    simp [h1, h2]
                · try simp only [decide_eq_true_eq, decide_eq_false_iff_not, Bool.not_eq_true', Bool.not_eq_false', Bool.not_eq_eq_eq_not, Bool.not_true, Bool.not_false, beq_iff_eq, bne_iff_ne, ne_eq, beq_eq_false_iff_ne, bne_eq_false_iff_eq, gt_iff_lt, ge_iff_le, Int.not_lt, Int.not_le] at hc264
                  refine c_exit (x_thenX (x_thenX (x_blkX (x_then ?_))))
                  have hjj : twk (notQ 34) src j = j := by
                    first
                    | exact twk_end (by omega)
                    | (refine twk_stop hc2 ?_
                       unfold notQ
                       have h2 : c2 = 34 := Decidable.byContradiction (fun h => u8_ne.2 h hg259)
                       simp [h2])
                    | (refine twk_stop hc2 ?_
                       unfold notQ
                       have h2 : c2 = 10 := (u8_beq c2 10 (by decide)).2 (by omega)
                       simp [h2])
                  have hjw : j = twk (notQ 34) src (q + 1) := by rw [← hjt]; exact hjj.symm
                  exact ⟨hX, hF, kp _ ⟨rfl, rfl, rfl, congrArg (fun z : Nat => some (i64c z)) hjw, trivial⟩⟩
              · try simp only [decide_eq_true_eq, decide_eq_false_iff_not, Bool.not_eq_true', Bool.not_eq_false', Bool.not_eq_eq_eq_not, Bool.not_true, Bool.not_false, beq_iff_eq, bne_iff_ne, ne_eq, beq_eq_false_iff_ne, bne_eq_false_iff_eq, gt_iff_lt, ge_iff_le, Int.not_lt, Int.not_le] at hg259
                refine wlg_no rfl ?_
                refine wlg_no rfl ?_
                refine wlg_no rfl ?_
                refine wlg_no rfl ?_
                refine wl (ro_pick rfl rfl rfl) ?_
                refine wl_nil (x_then (hK70 _ _ ?_))
                clear hK70 K70
                refine wc_condF rfl ?_
                refine c_exit (x_thenX (x_thenX (x_blkX (x_then ?_))))
                have hjj : twk (notQ 34) src j = j := by
                  first
                  | exact twk_end (by omega)
                  | (refine twk_stop hc2 ?_
                     unfold notQ
                     have h2 : c2 = 34 := Decidable.byContradiction (fun h => u8_ne.2 h hg259)
                     simp [h2])
                  | (refine twk_stop hc2 ?_
                     unfold notQ
                     have h2 : c2 = 10 := (u8_beq c2 10 (by decide)).2 (by omega)
                     simp [h2])
                have hjw : j = twk (notQ 34) src (q + 1) := by rw [← hjt]; exact hjj.symm
                exact ⟨hX, hF, kp _ ⟨rfl, rfl, rfl, congrArg (fun z : Nat => some (i64c z)) hjw, trivial⟩⟩
            · try simp only [decide_eq_true_eq, decide_eq_false_iff_not, Bool.not_eq_true', Bool.not_eq_false', Bool.not_eq_eq_eq_not, Bool.not_true, Bool.not_false, beq_iff_eq, bne_iff_ne, ne_eq, beq_eq_false_iff_ne, bne_eq_false_iff_eq, gt_iff_lt, ge_iff_le, Int.not_lt, Int.not_le] at hg253
              refine wlg_no rfl ?_
              refine wlg_no rfl ?_
              refine wlg_no rfl ?_
              refine wlg_no rfl ?_
              refine wl (ro_pick rfl rfl rfl) ?_
              refine wl (ro_move rfl) ?_
              refine wlg_no rfl ?_
              refine wlg_no rfl ?_
              refine wlg_no rfl ?_
              refine wlg_no rfl ?_
              refine wl (ro_pick rfl rfl rfl) ?_
              refine wl_nil (x_then (hK70 _ _ ?_))
              clear hK70 K70
              refine wc_condF rfl ?_
              refine c_exit (x_thenX (x_thenX (x_blkX (x_then ?_))))
              have hjj : twk (notQ 34) src j = j := by
                first
                | exact twk_end (by omega)
                | (refine twk_stop hc2 ?_
                   unfold notQ
                   have h2 : c2 = 34 := Decidable.byContradiction (fun h => u8_ne.2 h hg259)
                   simp [h2])
                | (refine twk_stop hc2 ?_
                   unfold notQ
                   have h2 : c2 = 10 := (u8_beq c2 10 (by decide)).2 (by omega)
                   simp [h2])
              have hjw : j = twk (notQ 34) src (q + 1) := by rw [← hjt]; exact hjj.symm
              exact ⟨hX, hF, kp _ ⟨rfl, rfl, rfl, congrArg (fun z : Nat => some (i64c z)) hjw, trivial⟩⟩
          clear hF hX
          rintro a' u2 ⟨hX, hF, e, rfl⟩
          refine c_seq (fun K71 hK71 => ?_)
          refine c_seq (fun K72 hK72 => ?_)
          refine c_reg ?_ -- region 43 syntaxm.go:140
          refine wl (ro_move rfl) ?_
          refine wl (ro_move rfl) ?_
          refine wl (ro_lenS rfl st_9) ?_
          refine wl (ro_cmp rfl rfl rfl) ?_
          refine wl_fork rfl (fun hg271 => ?_) (fun hg271 => ?_)
          · try simp only [decide_eq_true_eq, decide_eq_false_iff_not, Bool.not_eq_true', Bool.not_eq_false', Bool.not_eq_eq_eq_not, Bool.not_true, Bool.not_false, beq_iff_eq, bne_iff_ne, ne_eq, beq_eq_false_iff_ne, bne_eq_false_iff_eq, gt_iff_lt, ge_iff_le, Int.not_lt, Int.not_le] at hg271
            refine wlg_no rfl ?_
            refine wlg_no rfl ?_
            refine wlg_no rfl ?_
            refine wlg_no rfl ?_
            refine wl (ro_pick rfl rfl rfl) ?_
            refine wl (ro_move rfl) ?_
            refine wlg_no rfl ?_
            refine wlg_no rfl ?_
            refine wlg_no rfl ?_
            refine wlg_no rfl ?_
            refine wlg_no rfl ?_
            refine wl (ro_pick rfl rfl rfl) ?_
            refine wl_nil (x_then (hK72 _ _ ?_))
            clear hK72 K72
            refine wc_condT rfl ?_
            refine c_seq (fun K73 hK73 => ?_)
            have hbad : ¬ (src[twk (notQ 34) src (q + 1)]? = some 34 ∧ twk (notQ 34) src (q + 1) - (q + 1) ≤ 40) := by
              first
              | exact fun h => by have := h.2; omega
              | exact fun h => by have h1 := h.1; rw [hcj] at h1; cases h1; exact hg277 rfl
              | exact fun h => by have := (List.getElem?_eq_some_iff.1 h.1).1; omega
            rw [if_neg hbad] at hA
            refine c_reg ?_ -- region 44 syntaxm.go:141
            refine wl (ro_move rfl) ?_
            refine wl (ro_move rfl) ?_
            refine wl (ro_lenS rfl st_9) ?_
            refine wl (ro_nilCheck rfl) ?_
            refine wl (ro_fieldAddr (k := 2) rfl fo_146_2) ?_
            refine wl_put rfl rfl rfl sz_3 hX (by simp) (rfl) (fun w18 hX F18 => ?_)
            replace hF := hF.thenDrew.thenO F18 (by first | exact .inr (by omega) | exact .inl rfl | exact .inl (by assumption) | assumption)
            refine wl_nil (x_then (hK73 _ _ ?_))
            clear hK73 K73
            refine forget [(0, _), (4, _)] ⟨rfl, rfl, trivial⟩ (fun e => ?_)
            refine c_seq (fun K74 hK74 => ?_)
            refine c_reg ?_ -- region 45 syntaxm.go:142
            refine wl (ro_move rfl) ?_
            refine wl (ro_move rfl) ?_
            refine wl (ro_build rfl bld_144_0_4_3) ?_
            refine wl (ro_nilCheck rfl) ?_
            refine wl (ro_fieldAddr (k := 3) rfl fo_146_3) ?_
            refine wl_puta rfl rfl ((by simp [Value.oneCell', i64c, u64c, S])) sz_144 (rfl) hX ((by simp)) (rfl) (fun w19 hX F19 => ?_)
            replace hF := hF.thenDrew.thenO F19 (by first | exact .inr (by omega) | exact .inl rfl | exact .inl (by assumption) | assumption)
            refine wl_nil (x_then (hK74 _ _ ?_))
            clear hK74 K74
            refine c_ret (x_thenR (x_thenR ?_))
            refine bp_ret Tryz.results48 rfl ?_
            have h9 := nx_ok (pos' := src.length) htk hT hA (fun h => by simp at h)
            exact ⟨rfl, hF, _, ⟨1, q, [], 0, 14⟩, hX, Nat.le_refl _, h9.1, h9.2⟩
          · try simp only [decide_eq_true_eq, decide_eq_false_iff_not, Bool.not_eq_true', Bool.not_eq_false', Bool.not_eq_eq_eq_not, Bool.not_true, Bool.not_false, beq_iff_eq, bne_iff_ne, ne_eq, beq_eq_false_iff_ne, bne_eq_false_iff_eq, gt_iff_lt, ge_iff_le, Int.not_lt, Int.not_le] at hg271
            obtain ⟨cj, hcj⟩ : ∃ cj, src[twk (notQ 34) src (q + 1)]? = some cj := ⟨_, List.getElem?_eq_getElem (by omega)⟩
            refine wlg_yes rfl (ro_move rfl) ?_
            refine wlg_yes rfl (ro_move rfl) ?_
            refine wlg_yes rfl (ro_indexS rfl rfl st_9 rfl (hcj)) ?_
            refine wlg_yes rfl (ro_cmp rfl rfl rfl) ?_
            refine wl (ro_pick rfl rfl rfl) ?_
            refine wl_fork rfl (fun hg277 => ?_) (fun hg277 => ?_)
            · try simp only [decide_eq_true_eq, decide_eq_false_iff_not, Bool.not_eq_true', Bool.not_eq_false', Bool.not_eq_eq_eq_not, Bool.not_true, Bool.not_false, beq_iff_eq, bne_iff_ne, ne_eq, beq_eq_false_iff_ne, bne_eq_false_iff_eq, gt_iff_lt, ge_iff_le, Int.not_lt, Int.not_le] at hg277
              refine wlg_no rfl ?_
              refine wlg_no rfl ?_
              refine wlg_no rfl ?_
              refine wlg_no rfl ?_
              refine wlg_no rfl ?_
              refine wl (ro_pick rfl rfl rfl) ?_
              refine wl_nil (x_then (hK72 _ _ ?_))
              clear hK72 K72
              refine wc_condT rfl ?_
              refine c_seq (fun K75 hK75 => ?_)
              have hbad : ¬ (src[twk (notQ 34) src (q + 1)]? = some 34 ∧ twk (notQ 34) src (q + 1) - (q + 1) ≤ 40) := by
                first
                | exact fun h => by have := h.2; omega
                | exact fun h => by have h1 := h.1; rw [hcj] at h1; cases h1; exact hg277 rfl
                | exact fun h => by have := (List.getElem?_eq_some_iff.1 h.1).1; omega
              rw [if_neg hbad] at hA
              refine c_reg ?_ -- region 44 syntaxm.go:141
              refine wl (ro_move rfl) ?_
              refine wl (ro_move rfl) ?_
              refine wl (ro_lenS rfl st_9) ?_
              refine wl (ro_nilCheck rfl) ?_
              refine wl (ro_fieldAddr (k := 2) rfl fo_146_2) ?_
              refine wl_put rfl rfl rfl sz_3 hX (by simp) (rfl) (fun w20 hX F20 => ?_)
              replace hF := hF.thenDrew.thenO F20 (by first | exact .inr (by omega) | exact .inl rfl | exact .inl (by assumption) | assumption)
              refine wl_nil (x_then (hK75 _ _ ?_))
              clear hK75 K75
              refine forget [(0, _), (4, _)] ⟨rfl, rfl, trivial⟩ (fun e => ?_)
              refine c_seq (fun K76 hK76 => ?_)
              refine c_reg ?_ -- region 45 syntaxm.go:142
              refine wl (ro_move rfl) ?_
              refine wl (ro_move rfl) ?_
              refine wl (ro_build rfl bld_144_0_4_3) ?_
              refine wl (ro_nilCheck rfl) ?_
              refine wl (ro_fieldAddr (k := 3) rfl fo_146_3) ?_
              refine wl_puta rfl rfl ((by simp [Value.oneCell', i64c, u64c, S])) sz_144 (rfl) hX ((by simp)) (rfl) (fun w21 hX F21 => ?_)
              replace hF := hF.thenDrew.thenO F21 (by first | exact .inr (by omega) | exact .inl rfl | exact .inl (by assumption) | assumption)
              refine wl_nil (x_then (hK76 _ _ ?_))
              clear hK76 K76
              refine c_ret (x_thenR (x_thenR ?_))
              refine bp_ret Tryz.results48 rfl ?_
              have h9 := nx_ok (pos' := src.length) htk hT hA (fun h => by simp at h)
              exact ⟨rfl, hF, _, ⟨1, q, [], 0, 14⟩, hX, Nat.le_refl _, h9.1, h9.2⟩
            · try simp only [decide_eq_true_eq, decide_eq_false_iff_not, Bool.not_eq_true', Bool.not_eq_false', Bool.not_eq_eq_eq_not, Bool.not_true, Bool.not_false, beq_iff_eq, bne_iff_ne, ne_eq, beq_eq_false_iff_ne, bne_eq_false_iff_eq, gt_iff_lt, ge_iff_le, Int.not_lt, Int.not_le] at hg277
              refine wlg_yes rfl (ro_move rfl) ?_
              refine wlg_yes rfl (ro_move rfl) ?_
              refine wlg_yes rfl (ro_arith rfl rfl rfl (Go.IntWalk.i64_in _ (by omega))) ?_
              refine wlg_yes rfl (ro_arith rfl rfl rfl (Go.IntWalk.i64_in _ (by omega))) ?_
              refine wlg_yes rfl (ro_cmp rfl rfl rfl) ?_
              refine wl (ro_pick rfl rfl rfl) ?_
              refine wl_nil (x_then (hK72 _ _ ?_))
              clear hK72 K72
              refine wc_cond rfl (fun hc283 => ?_) (fun hc283 => ?_)
              · try simp only [decide_eq_true_eq, decide_eq_false_iff_not, Bool.not_eq_true', Bool.not_eq_false', Bool.not_eq_eq_eq_not, Bool.not_true, Bool.not_false, beq_iff_eq, bne_iff_ne, ne_eq, beq_eq_false_iff_ne, bne_eq_false_iff_eq, gt_iff_lt, ge_iff_le, Int.not_lt, Int.not_le] at hc283
                refine c_seq (fun K77 hK77 => ?_)
                have hbad : ¬ (src[twk (notQ 34) src (q + 1)]? = some 34 ∧ twk (notQ 34) src (q + 1) - (q + 1) ≤ 40) := by
                  first
                  | exact fun h => by have := h.2; omega
                  | exact fun h => by have h1 := h.1; rw [hcj] at h1; cases h1; exact hg277 rfl
                  | exact fun h => by have := (List.getElem?_eq_some_iff.1 h.1).1; omega
                rw [if_neg hbad] at hA
                refine c_reg ?_ -- region 44 syntaxm.go:141
                refine wl (ro_move rfl) ?_
                refine wl (ro_move rfl) ?_
                refine wl (ro_lenS rfl st_9) ?_
                refine wl (ro_nilCheck rfl) ?_
                refine wl (ro_fieldAddr (k := 2) rfl fo_146_2) ?_
                refine wl_put rfl rfl rfl sz_3 hX (by simp) (rfl) (fun w22 hX F22 => ?_)
                replace hF := hF.thenDrew.thenO F22 (by first | exact .inr (by omega) | exact .inl rfl | exact .inl (by assumption) | assumption)
                refine wl_nil (x_then (hK77 _ _ ?_))
                clear hK77 K77
                refine forget [(0, _), (4, _)] ⟨rfl, rfl, trivial⟩ (fun e => ?_)
                refine c_seq (fun K78 hK78 => ?_)
                refine c_reg ?_ -- region 45 syntaxm.go:142
                refine wl (ro_move rfl) ?_
                refine wl (ro_move rfl) ?_
                refine wl (ro_build rfl bld_144_0_4_3) ?_
                refine wl (ro_nilCheck rfl) ?_
                refine wl (ro_fieldAddr (k := 3) rfl fo_146_3) ?_
                refine wl_puta rfl rfl ((by simp [Value.oneCell', i64c, u64c, S])) sz_144 (rfl) hX ((by simp)) (rfl) (fun w23 hX F23 => ?_)
                replace hF := hF.thenDrew.thenO F23 (by first | exact .inr (by omega) | exact .inl rfl | exact .inl (by assumption) | assumption)
                refine wl_nil (x_then (hK78 _ _ ?_))
                clear hK78 K78
                refine c_ret (x_thenR (x_thenR ?_))
                refine bp_ret Tryz.results48 rfl ?_
                have h9 := nx_ok (pos' := src.length) htk hT hA (fun h => by simp at h)
                exact ⟨rfl, hF, _, ⟨1, q, [], 0, 14⟩, hX, Nat.le_refl _, h9.1, h9.2⟩
              · try simp only [decide_eq_true_eq, decide_eq_false_iff_not, Bool.not_eq_true', Bool.not_eq_false', Bool.not_eq_eq_eq_not, Bool.not_true, Bool.not_false, beq_iff_eq, bne_iff_ne, ne_eq, beq_eq_false_iff_ne, bne_eq_false_iff_eq, gt_iff_lt, ge_iff_le, Int.not_lt, Int.not_le] at hc283
                refine c_skip (x_then (hK71 _ _ ?_))
                clear hK71 K71
                refine forget [(0, _), (2, _), (4, _), (6, _)] ⟨rfl, rfl, rfl, rfl, trivial⟩ (fun e => ?_)
                refine c_seq (fun K79 hK79 => ?_)
                have hgood : src[twk (notQ 34) src (q + 1)]? = some 34 ∧ twk (notQ 34) src (q + 1) - (q + 1) ≤ 40 := by
                  refine ⟨?_, by omega⟩
                  rw [hcj]
                  exact congrArg some ((u8_beq cj 34 (by decide)).2 (by omega))
                rw [if_pos hgood] at hA
                refine c_reg ?_ -- region 46 syntaxm.go:145
                refine wl (ro_move rfl) ?_
                refine wl (ro_move rfl) ?_
                refine wl (ro_arith rfl rfl rfl (Go.IntWalk.i64_in _ (by omega))) ?_
                refine wl (ro_nilCheck rfl) ?_
                refine wl (ro_fieldAddr (k := 2) rfl fo_146_2) ?_
                refine wl_put rfl rfl rfl sz_3 hX (by simp) (rfl) (fun w24 hX F24 => ?_)
                replace hF := hF.thenDrew.thenO F24 (by first | exact .inr (by omega) | exact .inl rfl | exact .inl (by assumption) | assumption)
                refine wl_nil (x_then (hK79 _ _ ?_))
                clear hK79 K79
                refine forget [(0, _), (2, _), (4, _), (6, _)] ⟨rfl, rfl, rfl, rfl, trivial⟩ (fun e => ?_)
                refine c_seq (fun K80 hK80 => ?_)
                refine c_reg ?_ -- region 47 syntaxm.go:146
                refine wl (ro_move rfl) ?_
                refine wl (ro_move rfl) ?_
                refine wl (ro_move rfl) ?_
                refine wl (ro_arith rfl rfl rfl (Go.IntWalk.i64_in _ (by omega))) ?_
                refine wl (ro_move rfl) ?_
                refine wl (ro_sliceSLH (l := q + 1) (h := twk (notQ 34) src (q + 1)) rfl rfl rfl st_9 rfl rfl (by omega) (by omega)) ?_
                refine wl (ro_move rfl) ?_
                refine wl (ro_build rfl bld_144_0_1_3) ?_
                refine wl (ro_nilCheck rfl) ?_
                refine wl (ro_fieldAddr (k := 3) rfl fo_146_3) ?_
                refine wl_puta rfl rfl ((by simp [Value.oneCell', i64c, u64c, S])) sz_144 (rfl) hX ((by simp)) (rfl) (fun w25 hX F25 => ?_)
                replace hF := hF.thenDrew.thenO F25 (by first | exact .inr (by omega) | exact .inl rfl | exact .inl (by assumption) | assumption)
                refine wl_nil (x_then (hK80 _ _ ?_))
                clear hK80 K80
                refine c_ret (x_thenR ?_)
                refine bp_ret Tryz.results48 rfl ?_
                have h9 := nx_ok (pos' := twk (notQ 34) src (q + 1) + 1) htk hT hA (fun _ => by omega)
                exact ⟨rfl, hF, twk (notQ 34) src (q + 1) + 1, ⟨4, q, (src.drop (q + 1)).take (twk (notQ 34) src (q + 1) - (q + 1)), 0, 0⟩, hX, by have := (List.getElem?_eq_some_iff.1 hcj).1; omega, h9.1, h9.2⟩
        · try simp only [decide_eq_true_eq, decide_eq_false_iff_not, Bool.not_eq_true', Bool.not_eq_false', Bool.not_eq_eq_eq_not, Bool.not_true, Bool.not_false, beq_iff_eq, bne_iff_ne, ne_eq, beq_eq_false_iff_ne, bne_eq_false_iff_eq, gt_iff_lt, ge_iff_le, Int.not_lt, Int.not_le] at hc246
          have hn34 : c ≠ 34 := fun h => hc246 (by rw [h]; rfl)
          have hnd : isDig c = false := hc154
          have hA := tok_sgn (s := src) (p := q) hnl hnd hn34
          refine c_skip (x_then (hK66 _ _ ?_))
          clear hK66 K66
          refine c_mid (fun a' w' => sgnW src q c = [c] ∧ Blk w'.heap mp [np, S src, i64c q, k1, k2, k3, k4, k5, x1, x2, x3, x4, x5, x6] 146 ∧ Fram (one mp) w w' ∧ ∃ e, a' = Fr 385 (upds e [(0, ptr mp), (2, S src), (4, i64c q), (5, u8c c)]) []) ?_ ?_
          · skip
            refine c_seq (fun K81 hK81 => ?_)
            refine c_reg ?_ -- region 48 syntaxm.go:149
            refine wl (ro_move rfl) ?_
            refine wl (ro_arith rfl rfl rfl (Go.IntWalk.i64_in _ (by omega))) ?_
            refine wl (ro_move rfl) ?_
            refine wl (ro_lenS rfl st_9) ?_
            refine wl (ro_cmp rfl rfl rfl) ?_
            refine wl_nil (x_then (hK81 _ _ ?_))
            clear hK81 K81
            refine wc_cond rfl (fun hc313 => ?_) (fun hc313 => ?_)
            · try simp only [decide_eq_true_eq, decide_eq_false_iff_not, Bool.not_eq_true', Bool.not_eq_false', Bool.not_eq_eq_eq_not, Bool.not_true, Bool.not_false, beq_iff_eq, bne_iff_ne, ne_eq, beq_eq_false_iff_ne, bne_eq_false_iff_eq, gt_iff_lt, ge_iff_le, Int.not_lt, Int.not_le] at hc313
              obtain ⟨d, hd⟩ : ∃ d, src[q + 1]? = some d := ⟨_, List.getElem?_eq_getElem (by omega)⟩
              have h2 : (src.drop q).take (q + 2 - q) = [c, d] := by
                rw [show q + 2 - q = 2 by omega, drop_cons hc, drop_cons hd]
                rfl
              have hsw : sgnW src q c = if twoC c d = true then [c, d] else [c] := by unfold sgnW; rw [hd]
              have hall : True := trivial
              refine c_seq (fun K82 hK82 => ?_)
              refine c_reg ?_ -- region 49 syntaxm.go:150
              refine wl (ro_move rfl) ?_
              refine wl (ro_move rfl) ?_
              refine wl (ro_move rfl) ?_
              refine wl (ro_arith rfl rfl rfl (Go.IntWalk.i64_in _ (by omega))) ?_
              refine wl (ro_slice2 (q := q) (h := q + 2) rfl rfl rfl st_9 rfl (by omega) (by omega) (by omega) h2) ?_
              refine wl_nil (x_then (hK82 _ _ ?_))
              clear hK82 K82
              refine c_block ?_
              refine c_mid (fun a' w' => Blk w'.heap mp [np, S src, i64c q, k1, k2, k3, k4, k5, x1, x2, x3, x4, x5, x6] 146 ∧ Fram (one mp) w w' ∧ ∃ e, a' = Fr 385 (upds e [(0, ptr mp), (2, S src), (4, i64c q), (5, u8c c), (319, .bool (twoC c d))]) []) ?_ ?_
              · skip
                refine c_seq (fun K83 hK83 => ?_)
                refine c_reg ?_ -- region 50 syntaxm.go:151
                refine wl (ro_eqS rfl rfl rfl) ?_
                refine wl (ro_assign rfl) ?_
                refine wl_nil (x_then (hK83 _ _ ?_))
                clear hK83 K83
                refine wc_cond rfl (fun hc319 => ?_) (fun hc319 => ?_)
                · try simp only [decide_eq_true_eq, decide_eq_false_iff_not, Bool.not_eq_true', Bool.not_eq_false', Bool.not_eq_eq_eq_not, Bool.not_true, Bool.not_false, beq_iff_eq, bne_iff_ne, ne_eq, beq_eq_false_iff_ne, bne_eq_false_iff_eq, gt_iff_lt, ge_iff_le, Int.not_lt, Int.not_le] at hc319
                  refine c_skip (x_then ?_)
                  exact ⟨hX, hF, kp _ ⟨rfl, rfl, rfl, rfl, by show some (Value.bool ([c, d] == [61, 61])) = some (Value.bool (twoC c d)); rw [(twoC_iff c d).2 (.inl hc319), beq_iff_eq.2 hc319], trivial⟩⟩
                · try simp only [decide_eq_true_eq, decide_eq_false_iff_not, Bool.not_eq_true', Bool.not_eq_false', Bool.not_eq_eq_eq_not, Bool.not_true, Bool.not_false, beq_iff_eq, bne_iff_ne, ne_eq, beq_eq_false_iff_ne, bne_eq_false_iff_eq, gt_iff_lt, ge_iff_le, Int.not_lt, Int.not_le] at hc319
                  replace hall := And.intro hc319 hall
                  refine c_seq (fun K84 hK84 => ?_)
                  refine c_reg ?_ -- region 51 syntaxm.go:151
                  refine wl (ro_eqS rfl rfl rfl) ?_
                  refine wl (ro_assign rfl) ?_
                  refine wl_nil (x_then (hK84 _ _ ?_))
                  clear hK84 K84
                  refine wc_cond rfl (fun hc319 => ?_) (fun hc319 => ?_)
                  · try simp only [decide_eq_true_eq, decide_eq_false_iff_not, Bool.not_eq_true', Bool.not_eq_false', Bool.not_eq_eq_eq_not, Bool.not_true, Bool.not_false, beq_iff_eq, bne_iff_ne, ne_eq, beq_eq_false_iff_ne, bne_eq_false_iff_eq, gt_iff_lt, ge_iff_le, Int.not_lt, Int.not_le] at hc319
                    refine c_skip (x_then ?_)
                    exact ⟨hX, hF, kp _ ⟨rfl, rfl, rfl, rfl, by show some (Value.bool ([c, d] == [126, 61])) = some (Value.bool (twoC c d)); rw [(twoC_iff c d).2 (.inr (.inl hc319)), beq_iff_eq.2 hc319], trivial⟩⟩
                  · try simp only [decide_eq_true_eq, decide_eq_false_iff_not, Bool.not_eq_true', Bool.not_eq_false', Bool.not_eq_eq_eq_not, Bool.not_true, Bool.not_false, beq_iff_eq, bne_iff_ne, ne_eq, beq_eq_false_iff_ne, bne_eq_false_iff_eq, gt_iff_lt, ge_iff_le, Int.not_lt, Int.not_le] at hc319
                    replace hall := And.intro hc319 hall
                    refine c_seq (fun K85 hK85 => ?_)
                    refine c_reg ?_ -- region 52 syntaxm.go:151
                    refine wl (ro_eqS rfl rfl rfl) ?_
                    refine wl (ro_assign rfl) ?_
                    refine wl_nil (x_then (hK85 _ _ ?_))
                    clear hK85 K85
                    refine wc_cond rfl (fun hc319 => ?_) (fun hc319 => ?_)
                    · try simp only [decide_eq_true_eq, decide_eq_false_iff_not, Bool.not_eq_true', Bool.not_eq_false', Bool.not_eq_eq_eq_not, Bool.not_true, Bool.not_false, beq_iff_eq, bne_iff_ne, ne_eq, beq_eq_false_iff_ne, bne_eq_false_iff_eq, gt_iff_lt, ge_iff_le, Int.not_lt, Int.not_le] at hc319
                      refine c_skip (x_then ?_)
                      exact ⟨hX, hF, kp _ ⟨rfl, rfl, rfl, rfl, by show some (Value.bool ([c, d] == [60, 61])) = some (Value.bool (twoC c d)); rw [(twoC_iff c d).2 (.inr (.inr (.inl hc319))), beq_iff_eq.2 hc319], trivial⟩⟩
                    · try simp only [decide_eq_true_eq, decide_eq_false_iff_not, Bool.not_eq_true', Bool.not_eq_false', Bool.not_eq_eq_eq_not, Bool.not_true, Bool.not_false, beq_iff_eq, bne_iff_ne, ne_eq, beq_eq_false_iff_ne, bne_eq_false_iff_eq, gt_iff_lt, ge_iff_le, Int.not_lt, Int.not_le] at hc319
                      replace hall := And.intro hc319 hall
                      refine c_seq (fun K86 hK86 => ?_)
                      refine c_reg ?_ -- region 53 syntaxm.go:151
                      refine wl (ro_eqS rfl rfl rfl) ?_
                      refine wl (ro_assign rfl) ?_
                      refine wl_nil (x_then (hK86 _ _ ?_))
                      clear hK86 K86
                      refine wc_cond rfl (fun hc319 => ?_) (fun hc319 => ?_)
                      · try simp only [decide_eq_true_eq, decide_eq_false_iff_not, Bool.not_eq_true', Bool.not_eq_false', Bool.not_eq_eq_eq_not, Bool.not_true, Bool.not_false, beq_iff_eq, bne_iff_ne, ne_eq, beq_eq_false_iff_ne, bne_eq_false_iff_eq, gt_iff_lt, ge_iff_le, Int.not_lt, Int.not_le] at hc319
                        refine c_skip (x_then ?_)
                        exact ⟨hX, hF, kp _ ⟨rfl, rfl, rfl, rfl, by show some (Value.bool ([c, d] == [62, 61])) = some (Value.bool (twoC c d)); rw [(twoC_iff c d).2 (.inr (.inr (.inr (.inl hc319)))), beq_iff_eq.2 hc319], trivial⟩⟩
                      · try simp only [decide_eq_true_eq, decide_eq_false_iff_not, Bool.not_eq_true', Bool.not_eq_false', Bool.not_eq_eq_eq_not, Bool.not_true, Bool.not_false, beq_iff_eq, bne_iff_ne, ne_eq, beq_eq_false_iff_ne, bne_eq_false_iff_eq, gt_iff_lt, ge_iff_le, Int.not_lt, Int.not_le] at hc319
                        replace hall := And.intro hc319 hall
                        refine c_seq (fun K87 hK87 => ?_)
                        refine c_reg ?_ -- region 54 syntaxm.go:151
                        refine wl (ro_eqS rfl rfl rfl) ?_
                        refine wl (ro_assign rfl) ?_
                        refine wl_nil (x_then (hK87 _ _ ?_))
                        clear hK87 K87
                        refine wc_cond rfl (fun hc319 => ?_) (fun hc319 => ?_)
                        · try simp only [decide_eq_true_eq, decide_eq_false_iff_not, Bool.not_eq_true', Bool.not_eq_false', Bool.not_eq_eq_eq_not, Bool.not_true, Bool.not_false, beq_iff_eq, bne_iff_ne, ne_eq, beq_eq_false_iff_ne, bne_eq_false_iff_eq, gt_iff_lt, ge_iff_le, Int.not_lt, Int.not_le] at hc319
                          refine c_skip (x_then ?_)
                          exact ⟨hX, hF, kp _ ⟨rfl, rfl, rfl, rfl, by show some (Value.bool ([c, d] == [46, 46])) = some (Value.bool (twoC c d)); rw [(twoC_iff c d).2 (.inr (.inr (.inr (.inr (.inl hc319))))), beq_iff_eq.2 hc319], trivial⟩⟩
                        · try simp only [decide_eq_true_eq, decide_eq_false_iff_not, Bool.not_eq_true', Bool.not_eq_false', Bool.not_eq_eq_eq_not, Bool.not_true, Bool.not_false, beq_iff_eq, bne_iff_ne, ne_eq, beq_eq_false_iff_ne, bne_eq_false_iff_eq, gt_iff_lt, ge_iff_le, Int.not_lt, Int.not_le] at hc319
                          replace hall := And.intro hc319 hall
                          refine c_reg ?_ -- region 55 syntaxm.go:151
                          refine wl (ro_eqS rfl rfl rfl) ?_
                          refine wl (ro_assign rfl) ?_
                          refine wl_nil (x_then ?_)
                          refine ⟨hX, hF, kp _ ⟨rfl, rfl, rfl, rfl, ?_, trivial⟩⟩
                          obtain ⟨n5, n4, n3, n2, n1, _⟩ := hall
                          show some (Value.bool ([c, d] == [47, 47])) = some (Value.bool (twoC c d))
                          by_cases h7 : [c, d] = [47, 47]
                          · rw [beq_iff_eq.2 h7, (twoC_iff c d).2 (.inr (.inr (.inr (.inr (.inr h7)))))]
                          · have : twoC c d = false := Bool.eq_false_iff.2 (fun h => by
                              rcases (twoC_iff c d).1 h with h | h | h | h | h | h
                              · exact n1 h
                              · exact n2 h
                              · exact n3 h
                              · exact n4 h
                              · exact n5 h
                              · exact h7 h)
                            rw [this, beq_eq_false_iff_ne.2 h7]
              clear hF hX
              rintro a' u2 ⟨hX, hF, e, rfl⟩
              refine wc_cond rfl (fun hc319 => ?_) (fun hc319 => ?_)
              · try simp only [decide_eq_true_eq, decide_eq_false_iff_not, Bool.not_eq_true', Bool.not_eq_false', Bool.not_eq_eq_eq_not, Bool.not_true, Bool.not_false, beq_iff_eq, bne_iff_ne, ne_eq, beq_eq_false_iff_ne, bne_eq_false_iff_eq, gt_iff_lt, ge_iff_le, Int.not_lt, Int.not_le] at hc319
                refine c_seq (fun K88 hK88 => ?_)
                rw [hsw, if_pos hc319] at hA
                obtain ⟨i, hi⟩ : ∃ i, posS [c, d] sgL = some i := by
                  rcases (twoC_iff c d).1 hc319 with h | h | h | h | h | h <;> (rw [h]; exact ⟨_, rfl⟩)
                rw [hi] at hA
                refine c_reg ?_ -- region 56 syntaxm.go:152
                refine wl (ro_move rfl) ?_
                refine wl (ro_move rfl) ?_
                refine wl (ro_arith rfl rfl rfl (Go.IntWalk.i64_in _ (by omega))) ?_
                refine wl (ro_nilCheck rfl) ?_
                refine wl (ro_fieldAddr (k := 2) rfl fo_146_2) ?_
                refine wl_put rfl rfl rfl sz_3 hX (by simp) (rfl) (fun w26 hX F26 => ?_)
                replace hF := hF.thenDrew.thenO F26 (by first | exact .inr (by omega) | exact .inl rfl | exact .inl (by assumption) | assumption)
                refine wl_nil (x_then (hK88 _ _ ?_))
                clear hK88 K88
                refine forget [(0, _), (2, _), (4, _)] ⟨rfl, rfl, rfl, trivial⟩ (fun e => ?_)
                refine c_seq (fun K89 hK89 => ?_)
                refine c_reg ?_ -- region 57 syntaxm.go:153
                refine wl (ro_move rfl) ?_
                refine wl (ro_move rfl) ?_
                refine wl (ro_move rfl) ?_
                refine wl (ro_move rfl) ?_
                refine wl (ro_arith rfl rfl rfl (Go.IntWalk.i64_in _ (by omega))) ?_
                refine wl (ro_slice2 (q := q) (h := q + 2) rfl rfl rfl st_9 rfl (by omega) (by omega) (by omega) h2) ?_
                refine wl (ro_move rfl) ?_
                refine wl (ro_build rfl bld_144_0_1_3) ?_
                refine wl (ro_nilCheck rfl) ?_
                refine wl (ro_fieldAddr (k := 3) rfl fo_146_3) ?_
                refine wl_puta rfl rfl ((by simp [Value.oneCell', i64c, u64c, S])) sz_144 (rfl) hX ((by simp)) (rfl) (fun w27 hX F27 => ?_)
                replace hF := hF.thenDrew.thenO F27 (by first | exact .inr (by omega) | exact .inl rfl | exact .inl (by assumption) | assumption)
                refine wl_nil (x_then (hK89 _ _ ?_))
                clear hK89 K89
                refine c_ret (x_blkR (x_thenR ?_))
                refine bp_ret Tryz.results48 rfl ?_
                have h9 := nx_ok (pos' := q + 2) htk hT hA (fun _ => rfl)
                obtain ⟨e1, e2, e3, e4⟩ := sg_tok (q := q) hi
                exact ⟨rfl, hF, _, _, by rw [mpc_of e1 e2 e3 e4]; exact hX, by omega, h9.1, h9.2⟩
              · try simp only [decide_eq_true_eq, decide_eq_false_iff_not, Bool.not_eq_true', Bool.not_eq_false', Bool.not_eq_eq_eq_not, Bool.not_true, Bool.not_false, beq_iff_eq, bne_iff_ne, ne_eq, beq_eq_false_iff_ne, bne_eq_false_iff_eq, gt_iff_lt, ge_iff_le, Int.not_lt, Int.not_le] at hc319
                replace hall := And.intro hc319 hall
                refine c_skip (x_blk (x_then ?_))
                exact ⟨by rw [hsw, if_neg (by simp [hc319])], hX, hF, kp _ ⟨rfl, rfl, rfl, rfl, trivial⟩⟩
            · try simp only [decide_eq_true_eq, decide_eq_false_iff_not, Bool.not_eq_true', Bool.not_eq_false', Bool.not_eq_eq_eq_not, Bool.not_true, Bool.not_false, beq_iff_eq, bne_iff_ne, ne_eq, beq_eq_false_iff_ne, bne_eq_false_iff_eq, gt_iff_lt, ge_iff_le, Int.not_lt, Int.not_le] at hc313
              refine c_skip (x_then ?_)
              exact ⟨by unfold sgnW; rw [List.getElem?_eq_none (by omega)], hX, hF, kp _ ⟨rfl, rfl, rfl, rfl, trivial⟩⟩
          clear hF hX
          rintro a' u2 ⟨hsg, hX, hF, e, rfl⟩
          rw [hsg] at hA
          have hall : True := trivial
          refine c_seq (fun K90 hK90 => ?_)
          refine c_seq (fun K91 hK91 => ?_)
          refine c_reg ?_ -- region 58 syntaxm.go:157
          refine wl (ro_move rfl) ?_
          refine wl_nil (x_then (hK91 _ _ ?_))
          clear hK91 K91
          refine c_block ?_
          refine c_mid (fun a' w' => Blk w'.heap mp [np, S src, i64c q, k1, k2, k3, k4, k5, x1, x2, x3, x4, x5, x6] 146 ∧ Fram (one mp) w w' ∧ ∃ e, a' = Fr 385 (upds e [(0, ptr mp), (2, S src), (4, i64c q), (342, .bool (posS [c] sgL).isSome)]) []) ?_ ?_
          · skip
            refine c_seq (fun K92 hK92 => ?_)
            refine c_reg ?_ -- region 59 syntaxm.go:158
            refine wl (ro_cmp rfl rfl rfl) ?_
            refine wl (ro_assign rfl) ?_
            refine wl_nil (x_then (hK92 _ _ ?_))
            clear hK92 K92
            refine wc_cond rfl (fun hc342 => ?_) (fun hc342 => ?_)
            · try simp only [decide_eq_true_eq, decide_eq_false_iff_not, Bool.not_eq_true', Bool.not_eq_false', Bool.not_eq_eq_eq_not, Bool.not_true, Bool.not_false, beq_iff_eq, bne_iff_ne, ne_eq, beq_eq_false_iff_ne, bne_eq_false_iff_eq, gt_iff_lt, ge_iff_le, Int.not_lt, Int.not_le] at hc342
              refine c_skip (x_then ?_)
              have hcc : c = 43 := (u8_beq c 43 (by decide)).2 (by omega)
              subst hcc
              exact ⟨hX, hF, kp _ ⟨rfl, rfl, rfl, rfl, trivial⟩⟩
            · try simp only [decide_eq_true_eq, decide_eq_false_iff_not, Bool.not_eq_true', Bool.not_eq_false', Bool.not_eq_eq_eq_not, Bool.not_true, Bool.not_false, beq_iff_eq, bne_iff_ne, ne_eq, beq_eq_false_iff_ne, bne_eq_false_iff_eq, gt_iff_lt, ge_iff_le, Int.not_lt, Int.not_le] at hc342
              replace hall := And.intro hc342 hall
              refine c_seq (fun K93 hK93 => ?_)
              refine c_reg ?_ -- region 60 syntaxm.go:158
              refine wl (ro_cmp rfl rfl rfl) ?_
              refine wl (ro_assign rfl) ?_
              refine wl_nil (x_then (hK93 _ _ ?_))
              clear hK93 K93
              refine wc_cond rfl (fun hc342 => ?_) (fun hc342 => ?_)
              · try simp only [decide_eq_true_eq, decide_eq_false_iff_not, Bool.not_eq_true', Bool.not_eq_false', Bool.not_eq_eq_eq_not, Bool.not_true, Bool.not_false, beq_iff_eq, bne_iff_ne, ne_eq, beq_eq_false_iff_ne, bne_eq_false_iff_eq, gt_iff_lt, ge_iff_le, Int.not_lt, Int.not_le] at hc342
                refine c_skip (x_then ?_)
                have hcc : c = 45 := (u8_beq c 45 (by decide)).2 (by omega)
                subst hcc
                exact ⟨hX, hF, kp _ ⟨rfl, rfl, rfl, rfl, trivial⟩⟩
              · try simp only [decide_eq_true_eq, decide_eq_false_iff_not, Bool.not_eq_true', Bool.not_eq_false', Bool.not_eq_eq_eq_not, Bool.not_true, Bool.not_false, beq_iff_eq, bne_iff_ne, ne_eq, beq_eq_false_iff_ne, bne_eq_false_iff_eq, gt_iff_lt, ge_iff_le, Int.not_lt, Int.not_le] at hc342
                replace hall := And.intro hc342 hall
                refine c_seq (fun K94 hK94 => ?_)
                refine c_reg ?_ -- region 61 syntaxm.go:158
                refine wl (ro_cmp rfl rfl rfl) ?_
                refine wl (ro_assign rfl) ?_
                refine wl_nil (x_then (hK94 _ _ ?_))
                clear hK94 K94
                refine wc_cond rfl (fun hc342 => ?_) (fun hc342 => ?_)
                · try simp only [decide_eq_true_eq, decide_eq_false_iff_not, Bool.not_eq_true', Bool.not_eq_false', Bool.not_eq_eq_eq_not, Bool.not_true, Bool.not_false, beq_iff_eq, bne_iff_ne, ne_eq, beq_eq_false_iff_ne, bne_eq_false_iff_eq, gt_iff_lt, ge_iff_le, Int.not_lt, Int.not_le] at hc342
                  refine c_skip (x_then ?_)
                  have hcc : c = 42 := (u8_beq c 42 (by decide)).2 (by omega)
                  subst hcc
                  exact ⟨hX, hF, kp _ ⟨rfl, rfl, rfl, rfl, trivial⟩⟩
                · try simp only [decide_eq_true_eq, decide_eq_false_iff_not, Bool.not_eq_true', Bool.not_eq_false', Bool.not_eq_eq_eq_not, Bool.not_true, Bool.not_false, beq_iff_eq, bne_iff_ne, ne_eq, beq_eq_false_iff_ne, bne_eq_false_iff_eq, gt_iff_lt, ge_iff_le, Int.not_lt, Int.not_le] at hc342
                  replace hall := And.intro hc342 hall
                  refine c_seq (fun K95 hK95 => ?_)
                  refine c_reg ?_ -- region 62 syntaxm.go:158
                  refine wl (ro_cmp rfl rfl rfl) ?_
                  refine wl (ro_assign rfl) ?_
                  refine wl_nil (x_then (hK95 _ _ ?_))
                  clear hK95 K95
                  refine wc_cond rfl (fun hc342 => ?_) (fun hc342 => ?_)
                  · try simp only [decide_eq_true_eq, decide_eq_false_iff_not, Bool.not_eq_true', Bool.not_eq_false', Bool.not_eq_eq_eq_not, Bool.not_true, Bool.not_false, beq_iff_eq, bne_iff_ne, ne_eq, beq_eq_false_iff_ne, bne_eq_false_iff_eq, gt_iff_lt, ge_iff_le, Int.not_lt, Int.not_le] at hc342
                    refine c_skip (x_then ?_)
                    have hcc : c = 47 := (u8_beq c 47 (by decide)).2 (by omega)
                    subst hcc
                    exact ⟨hX, hF, kp _ ⟨rfl, rfl, rfl, rfl, trivial⟩⟩
                  · try simp only [decide_eq_true_eq, decide_eq_false_iff_not, Bool.not_eq_true', Bool.not_eq_false', Bool.not_eq_eq_eq_not, Bool.not_true, Bool.not_false, beq_iff_eq, bne_iff_ne, ne_eq, beq_eq_false_iff_ne, bne_eq_false_iff_eq, gt_iff_lt, ge_iff_le, Int.not_lt, Int.not_le] at hc342
                    replace hall := And.intro hc342 hall
                    refine c_seq (fun K96 hK96 => ?_)
                    refine c_reg ?_ -- region 63 syntaxm.go:158
                    refine wl (ro_cmp rfl rfl rfl) ?_
                    refine wl (ro_assign rfl) ?_
                    refine wl_nil (x_then (hK96 _ _ ?_))
                    clear hK96 K96
                    refine wc_cond rfl (fun hc342 => ?_) (fun hc342 => ?_)
                    · try simp only [decide_eq_true_eq, decide_eq_false_iff_not, Bool.not_eq_true', Bool.not_eq_false', Bool.not_eq_eq_eq_not, Bool.not_true, Bool.not_false, beq_iff_eq, bne_iff_ne, ne_eq, beq_eq_false_iff_ne, bne_eq_false_iff_eq, gt_iff_lt, ge_iff_le, Int.not_lt, Int.not_le] at hc342
                      refine c_skip (x_then ?_)
                      have hcc : c = 37 := (u8_beq c 37 (by decide)).2 (by omega)
                      subst hcc
                      exact ⟨hX, hF, kp _ ⟨rfl, rfl, rfl, rfl, trivial⟩⟩
                    · try simp only [decide_eq_true_eq, decide_eq_false_iff_not, Bool.not_eq_true', Bool.not_eq_false', Bool.not_eq_eq_eq_not, Bool.not_true, Bool.not_false, beq_iff_eq, bne_iff_ne, ne_eq, beq_eq_false_iff_ne, bne_eq_false_iff_eq, gt_iff_lt, ge_iff_le, Int.not_lt, Int.not_le] at hc342
                      replace hall := And.intro hc342 hall
                      refine c_seq (fun K97 hK97 => ?_)
                      refine c_reg ?_ -- region 64 syntaxm.go:158
                      refine wl (ro_cmp rfl rfl rfl) ?_
                      refine wl (ro_assign rfl) ?_
                      refine wl_nil (x_then (hK97 _ _ ?_))
                      clear hK97 K97
                      refine wc_cond rfl (fun hc342 => ?_) (fun hc342 => ?_)
                      · try simp only [decide_eq_true_eq, decide_eq_false_iff_not, Bool.not_eq_true', Bool.not_eq_false', Bool.not_eq_eq_eq_not, Bool.not_true, Bool.not_false, beq_iff_eq, bne_iff_ne, ne_eq, beq_eq_false_iff_ne, bne_eq_false_iff_eq, gt_iff_lt, ge_iff_le, Int.not_lt, Int.not_le] at hc342
                        refine c_skip (x_then ?_)
                        have hcc : c = 35 := (u8_beq c 35 (by decide)).2 (by omega)
                        subst hcc
                        exact ⟨hX, hF, kp _ ⟨rfl, rfl, rfl, rfl, trivial⟩⟩
                      · try simp only [decide_eq_true_eq, decide_eq_false_iff_not, Bool.not_eq_true', Bool.not_eq_false', Bool.not_eq_eq_eq_not, Bool.not_true, Bool.not_false, beq_iff_eq, bne_iff_ne, ne_eq, beq_eq_false_iff_ne, bne_eq_false_iff_eq, gt_iff_lt, ge_iff_le, Int.not_lt, Int.not_le] at hc342
                        replace hall := And.intro hc342 hall
                        refine c_seq (fun K98 hK98 => ?_)
                        refine c_reg ?_ -- region 65 syntaxm.go:158
                        refine wl (ro_cmp rfl rfl rfl) ?_
                        refine wl (ro_assign rfl) ?_
                        refine wl_nil (x_then (hK98 _ _ ?_))
                        clear hK98 K98
                        refine wc_cond rfl (fun hc342 => ?_) (fun hc342 => ?_)
                        · try simp only [decide_eq_true_eq, decide_eq_false_iff_not, Bool.not_eq_true', Bool.not_eq_false', Bool.not_eq_eq_eq_not, Bool.not_true, Bool.not_false, beq_iff_eq, bne_iff_ne, ne_eq, beq_eq_false_iff_ne, bne_eq_false_iff_eq, gt_iff_lt, ge_iff_le, Int.not_lt, Int.not_le] at hc342
                          refine c_skip (x_then ?_)
                          have hcc : c = 60 := (u8_beq c 60 (by decide)).2 (by omega)
                          subst hcc
                          exact ⟨hX, hF, kp _ ⟨rfl, rfl, rfl, rfl, trivial⟩⟩
                        · try simp only [decide_eq_true_eq, decide_eq_false_iff_not, Bool.not_eq_true', Bool.not_eq_false', Bool.not_eq_eq_eq_not, Bool.not_true, Bool.not_false, beq_iff_eq, bne_iff_ne, ne_eq, beq_eq_false_iff_ne, bne_eq_false_iff_eq, gt_iff_lt, ge_iff_le, Int.not_lt, Int.not_le] at hc342
                          replace hall := And.intro hc342 hall
                          refine c_seq (fun K99 hK99 => ?_)
                          refine c_reg ?_ -- region 66 syntaxm.go:158
                          refine wl (ro_cmp rfl rfl rfl) ?_
                          refine wl (ro_assign rfl) ?_
                          refine wl_nil (x_then (hK99 _ _ ?_))
                          clear hK99 K99
                          refine wc_cond rfl (fun hc342 => ?_) (fun hc342 => ?_)
                          · try simp only [decide_eq_true_eq, decide_eq_false_iff_not, Bool.not_eq_true', Bool.not_eq_false', Bool.not_eq_eq_eq_not, Bool.not_true, Bool.not_false, beq_iff_eq, bne_iff_ne, ne_eq, beq_eq_false_iff_ne, bne_eq_false_iff_eq, gt_iff_lt, ge_iff_le, Int.not_lt, Int.not_le] at hc342
                            refine c_skip (x_then ?_)
                            have hcc : c = 62 := (u8_beq c 62 (by decide)).2 (by omega)
                            subst hcc
                            exact ⟨hX, hF, kp _ ⟨rfl, rfl, rfl, rfl, trivial⟩⟩
                          · try simp only [decide_eq_true_eq, decide_eq_false_iff_not, Bool.not_eq_true', Bool.not_eq_false', Bool.not_eq_eq_eq_not, Bool.not_true, Bool.not_false, beq_iff_eq, bne_iff_ne, ne_eq, beq_eq_false_iff_ne, bne_eq_false_iff_eq, gt_iff_lt, ge_iff_le, Int.not_lt, Int.not_le] at hc342
                            replace hall := And.intro hc342 hall
                            refine c_seq (fun K100 hK100 => ?_)
                            refine c_reg ?_ -- region 67 syntaxm.go:158
                            refine wl (ro_cmp rfl rfl rfl) ?_
                            refine wl (ro_assign rfl) ?_
                            refine wl_nil (x_then (hK100 _ _ ?_))
                            clear hK100 K100
                            refine wc_cond rfl (fun hc342 => ?_) (fun hc342 => ?_)
                            · try simp only [decide_eq_true_eq, decide_eq_false_iff_not, Bool.not_eq_true', Bool.not_eq_false', Bool.not_eq_eq_eq_not, Bool.not_true, Bool.not_false, beq_iff_eq, bne_iff_ne, ne_eq, beq_eq_false_iff_ne, bne_eq_false_iff_eq, gt_iff_lt, ge_iff_le, Int.not_lt, Int.not_le] at hc342
                              refine c_skip (x_then ?_)
                              have hcc : c = 61 := (u8_beq c 61 (by decide)).2 (by omega)
                              subst hcc
                              exact ⟨hX, hF, kp _ ⟨rfl, rfl, rfl, rfl, trivial⟩⟩
                            · try simp only [decide_eq_true_eq, decide_eq_false_iff_not, Bool.not_eq_true', Bool.not_eq_false', Bool.not_eq_eq_eq_not, Bool.not_true, Bool.not_false, beq_iff_eq, bne_iff_ne, ne_eq, beq_eq_false_iff_ne, bne_eq_false_iff_eq, gt_iff_lt, ge_iff_le, Int.not_lt, Int.not_le] at hc342
                              replace hall := And.intro hc342 hall
                              refine c_seq (fun K101 hK101 => ?_)
                              refine c_reg ?_ -- region 68 syntaxm.go:158
                              refine wl (ro_cmp rfl rfl rfl) ?_
                              refine wl (ro_assign rfl) ?_
                              refine wl_nil (x_then (hK101 _ _ ?_))
                              clear hK101 K101
                              refine wc_cond rfl (fun hc342 => ?_) (fun hc342 => ?_)
                              · try simp only [decide_eq_true_eq, decide_eq_false_iff_not, Bool.not_eq_true', Bool.not_eq_false', Bool.not_eq_eq_eq_not, Bool.not_true, Bool.not_false, beq_iff_eq, bne_iff_ne, ne_eq, beq_eq_false_iff_ne, bne_eq_false_iff_eq, gt_iff_lt, ge_iff_le, Int.not_lt, Int.not_le] at hc342
                                refine c_skip (x_then ?_)
                                have hcc : c = 40 := (u8_beq c 40 (by decide)).2 (by omega)
                                subst hcc
                                exact ⟨hX, hF, kp _ ⟨rfl, rfl, rfl, rfl, trivial⟩⟩
                              · try simp only [decide_eq_true_eq, decide_eq_false_iff_not, Bool.not_eq_true', Bool.not_eq_false', Bool.not_eq_eq_eq_not, Bool.not_true, Bool.not_false, beq_iff_eq, bne_iff_ne, ne_eq, beq_eq_false_iff_ne, bne_eq_false_iff_eq, gt_iff_lt, ge_iff_le, Int.not_lt, Int.not_le] at hc342
                                replace hall := And.intro hc342 hall
                                refine c_seq (fun K102 hK102 => ?_)
                                refine c_reg ?_ -- region 69 syntaxm.go:158
                                refine wl (ro_cmp rfl rfl rfl) ?_
                                refine wl (ro_assign rfl) ?_
                                refine wl_nil (x_then (hK102 _ _ ?_))
                                clear hK102 K102
                                refine wc_cond rfl (fun hc342 => ?_) (fun hc342 => ?_)
                                · try simp only [decide_eq_true_eq, decide_eq_false_iff_not, Bool.not_eq_true', Bool.not_eq_false', Bool.not_eq_eq_eq_not, Bool.not_true, Bool.not_false, beq_iff_eq, bne_iff_ne, ne_eq, beq_eq_false_iff_ne, bne_eq_false_iff_eq, gt_iff_lt, ge_iff_le, Int.not_lt, Int.not_le] at hc342
                                  refine c_skip (x_then ?_)
                                  have hcc : c = 41 := (u8_beq c 41 (by decide)).2 (by omega)
                                  subst hcc
                                  exact ⟨hX, hF, kp _ ⟨rfl, rfl, rfl, rfl, trivial⟩⟩
                                · try simp only [decide_eq_true_eq, decide_eq_false_iff_not, Bool.not_eq_true', Bool.not_eq_false', Bool.not_eq_eq_eq_not, Bool.not_true, Bool.not_false, beq_iff_eq, bne_iff_ne, ne_eq, beq_eq_false_iff_ne, bne_eq_false_iff_eq, gt_iff_lt, ge_iff_le, Int.not_lt, Int.not_le] at hc342
                                  replace hall := And.intro hc342 hall
                                  refine c_seq (fun K103 hK103 => ?_)
                                  refine c_reg ?_ -- region 70 syntaxm.go:158
                                  refine wl (ro_cmp rfl rfl rfl) ?_
                                  refine wl (ro_assign rfl) ?_
                                  refine wl_nil (x_then (hK103 _ _ ?_))
                                  clear hK103 K103
                                  refine wc_cond rfl (fun hc342 => ?_) (fun hc342 => ?_)
                                  · try simp only [decide_eq_true_eq, decide_eq_false_iff_not, Bool.not_eq_true', Bool.not_eq_false', Bool.not_eq_eq_eq_not, Bool.not_true, Bool.not_false, beq_iff_eq, bne_iff_ne, ne_eq, beq_eq_false_iff_ne, bne_eq_false_iff_eq, gt_iff_lt, ge_iff_le, Int.not_lt, Int.not_le] at hc342
                                    refine c_skip (x_then ?_)
                                    have hcc : c = 123 := (u8_beq c 123 (by decide)).2 (by omega)
                                    subst hcc
                                    exact ⟨hX, hF, kp _ ⟨rfl, rfl, rfl, rfl, trivial⟩⟩
                                  · try simp only [decide_eq_true_eq, decide_eq_false_iff_not, Bool.not_eq_true', Bool.not_eq_false', Bool.not_eq_eq_eq_not, Bool.not_true, Bool.not_false, beq_iff_eq, bne_iff_ne, ne_eq, beq_eq_false_iff_ne, bne_eq_false_iff_eq, gt_iff_lt, ge_iff_le, Int.not_lt, Int.not_le] at hc342
                                    replace hall := And.intro hc342 hall
                                    refine c_seq (fun K104 hK104 => ?_)
                                    refine c_reg ?_ -- region 71 syntaxm.go:158
                                    refine wl (ro_cmp rfl rfl rfl) ?_
                                    refine wl (ro_assign rfl) ?_
                                    refine wl_nil (x_then (hK104 _ _ ?_))
                                    clear hK104 K104
                                    refine wc_cond rfl (fun hc342 => ?_) (fun hc342 => ?_)
                                    · try simp only [decide_eq_true_eq, decide_eq_false_iff_not, Bool.not_eq_true', Bool.not_eq_false', Bool.not_eq_eq_eq_not, Bool.not_true, Bool.not_false, beq_iff_eq, bne_iff_ne, ne_eq, beq_eq_false_iff_ne, bne_eq_false_iff_eq, gt_iff_lt, ge_iff_le, Int.not_lt, Int.not_le] at hc342
                                      refine c_skip (x_then ?_)
                                      have hcc : c = 125 := (u8_beq c 125 (by decide)).2 (by omega)
                                      subst hcc
                                      exact ⟨hX, hF, kp _ ⟨rfl, rfl, rfl, rfl, trivial⟩⟩
                                    · try simp only [decide_eq_true_eq, decide_eq_false_iff_not, Bool.not_eq_true', Bool.not_eq_false', Bool.not_eq_eq_eq_not, Bool.not_true, Bool.not_false, beq_iff_eq, bne_iff_ne, ne_eq, beq_eq_false_iff_ne, bne_eq_false_iff_eq, gt_iff_lt, ge_iff_le, Int.not_lt, Int.not_le] at hc342
                                      replace hall := And.intro hc342 hall
                                      refine c_seq (fun K105 hK105 => ?_)
                                      refine c_reg ?_ -- region 72 syntaxm.go:158
                                      refine wl (ro_cmp rfl rfl rfl) ?_
                                      refine wl (ro_assign rfl) ?_
                                      refine wl_nil (x_then (hK105 _ _ ?_))
                                      clear hK105 K105
                                      refine wc_cond rfl (fun hc342 => ?_) (fun hc342 => ?_)
                                      · try simp only [decide_eq_true_eq, decide_eq_false_iff_not, Bool.not_eq_true', Bool.not_eq_false', Bool.not_eq_eq_eq_not, Bool.not_true, Bool.not_false, beq_iff_eq, bne_iff_ne, ne_eq, beq_eq_false_iff_ne, bne_eq_false_iff_eq, gt_iff_lt, ge_iff_le, Int.not_lt, Int.not_le] at hc342
                                        refine c_skip (x_then ?_)
                                        have hcc : c = 91 := (u8_beq c 91 (by decide)).2 (by omega)
                                        subst hcc
                                        exact ⟨hX, hF, kp _ ⟨rfl, rfl, rfl, rfl, trivial⟩⟩
                                      · try simp only [decide_eq_true_eq, decide_eq_false_iff_not, Bool.not_eq_true', Bool.not_eq_false', Bool.not_eq_eq_eq_not, Bool.not_true, Bool.not_false, beq_iff_eq, bne_iff_ne, ne_eq, beq_eq_false_iff_ne, bne_eq_false_iff_eq, gt_iff_lt, ge_iff_le, Int.not_lt, Int.not_le] at hc342
                                        replace hall := And.intro hc342 hall
                                        refine c_seq (fun K106 hK106 => ?_)
                                        refine c_reg ?_ -- region 73 syntaxm.go:158
                                        refine wl (ro_cmp rfl rfl rfl) ?_
                                        refine wl (ro_assign rfl) ?_
                                        refine wl_nil (x_then (hK106 _ _ ?_))
                                        clear hK106 K106
                                        refine wc_cond rfl (fun hc342 => ?_) (fun hc342 => ?_)
                                        · try simp only [decide_eq_true_eq, decide_eq_false_iff_not, Bool.not_eq_true', Bool.not_eq_false', Bool.not_eq_eq_eq_not, Bool.not_true, Bool.not_false, beq_iff_eq, bne_iff_ne, ne_eq, beq_eq_false_iff_ne, bne_eq_false_iff_eq, gt_iff_lt, ge_iff_le, Int.not_lt, Int.not_le] at hc342
                                          refine c_skip (x_then ?_)
                                          have hcc : c = 93 := (u8_beq c 93 (by decide)).2 (by omega)
                                          subst hcc
                                          exact ⟨hX, hF, kp _ ⟨rfl, rfl, rfl, rfl, trivial⟩⟩
                                        · try simp only [decide_eq_true_eq, decide_eq_false_iff_not, Bool.not_eq_true', Bool.not_eq_false', Bool.not_eq_eq_eq_not, Bool.not_true, Bool.not_false, beq_iff_eq, bne_iff_ne, ne_eq, beq_eq_false_iff_ne, bne_eq_false_iff_eq, gt_iff_lt, ge_iff_le, Int.not_lt, Int.not_le] at hc342
                                          replace hall := And.intro hc342 hall
                                          refine c_seq (fun K107 hK107 => ?_)
                                          refine c_reg ?_ -- region 74 syntaxm.go:158
                                          refine wl (ro_cmp rfl rfl rfl) ?_
                                          refine wl (ro_assign rfl) ?_
                                          refine wl_nil (x_then (hK107 _ _ ?_))
                                          clear hK107 K107
                                          refine wc_cond rfl (fun hc342 => ?_) (fun hc342 => ?_)
                                          · try simp only [decide_eq_true_eq, decide_eq_false_iff_not, Bool.not_eq_true', Bool.not_eq_false', Bool.not_eq_eq_eq_not, Bool.not_true, Bool.not_false, beq_iff_eq, bne_iff_ne, ne_eq, beq_eq_false_iff_ne, bne_eq_false_iff_eq, gt_iff_lt, ge_iff_le, Int.not_lt, Int.not_le] at hc342
                                            refine c_skip (x_then ?_)
                                            have hcc : c = 44 := (u8_beq c 44 (by decide)).2 (by omega)
                                            subst hcc
                                            exact ⟨hX, hF, kp _ ⟨rfl, rfl, rfl, rfl, trivial⟩⟩
                                          · try simp only [decide_eq_true_eq, decide_eq_false_iff_not, Bool.not_eq_true', Bool.not_eq_false', Bool.not_eq_eq_eq_not, Bool.not_true, Bool.not_false, beq_iff_eq, bne_iff_ne, ne_eq, beq_eq_false_iff_ne, bne_eq_false_iff_eq, gt_iff_lt, ge_iff_le, Int.not_lt, Int.not_le] at hc342
                                            replace hall := And.intro hc342 hall
                                            refine c_reg ?_ -- region 75 syntaxm.go:158
                                            refine wl (ro_cmp rfl rfl rfl) ?_
                                            refine wl (ro_assign rfl) ?_
                                            refine wl_nil (x_then ?_)
                                            refine ⟨hX, hF, kp _ ⟨rfl, rfl, rfl, ?_, trivial⟩⟩
                                            obtain ⟨n16, n15, n14, n13, n12, n11, n10, n9, n8, n7, n6, n5, n4, n3, n2, n1, _⟩ := hall
                                            by_cases h7 : c = 46
                                            · subst h7; rfl
                                            · rw [posS_none (w := [c])]
                                              · show some (Value.bool ((c.toNat : Int) == 46)) = some (Value.bool false)
                                                have h8 : ((c.toNat : Int) == 46) = false := beq_eq_false_iff_ne.2 (fun h => h7 ((u8_beq c 46 (by decide)).2 h))
                                                rw [h8]
                                              · intro u hu
                                                simp only [sgL, List.mem_cons, List.not_mem_nil, or_false] at hu
                                                rcases hu with rfl | rfl | rfl | rfl | rfl | rfl | rfl | rfl | rfl | rfl | rfl | rfl | rfl | rfl | rfl | rfl | rfl | rfl | rfl | rfl | rfl | rfl | rfl
                                                all_goals (intro e; injection e with e e2)
                                                all_goals first | exact absurd e2 (List.cons_ne_nil _ _) | (subst e; first | exact h7 rfl | exact n1 rfl | exact n2 rfl | exact n3 rfl | exact n4 rfl | exact n5 rfl | exact n6 rfl | exact n7 rfl | exact n8 rfl | exact n9 rfl | exact n10 rfl | exact n11 rfl | exact n12 rfl | exact n13 rfl | exact n14 rfl | exact n15 rfl | exact n16 rfl)
          clear hF hX
          rintro a' u2 ⟨hX, hF, e, rfl⟩
          refine wc_cond rfl (fun hc342 => ?_) (fun hc342 => ?_)
          · try simp only [decide_eq_true_eq, decide_eq_false_iff_not, Bool.not_eq_true', Bool.not_eq_false', Bool.not_eq_eq_eq_not, Bool.not_true, Bool.not_false, beq_iff_eq, bne_iff_ne, ne_eq, beq_eq_false_iff_ne, bne_eq_false_iff_eq, gt_iff_lt, ge_iff_le, Int.not_lt, Int.not_le] at hc342
            refine c_seq (fun K108 hK108 => ?_)
            obtain ⟨i, hi⟩ := Option.isSome_iff_exists.1 hc342
            rw [hi] at hA
            have h1 : (src.drop q).take (q + 1 - q) = [c] := by
              rw [show q + 1 - q = 1 by omega, drop_cons hc]
              rfl
            refine c_reg ?_ -- region 76 syntaxm.go:159
            refine wl (ro_move rfl) ?_
            refine wl (ro_move rfl) ?_
            refine wl (ro_arith rfl rfl rfl (Go.IntWalk.i64_in _ (by omega))) ?_
            refine wl (ro_nilCheck rfl) ?_
            refine wl (ro_fieldAddr (k := 2) rfl fo_146_2) ?_
            refine wl_put rfl rfl rfl sz_3 hX (by simp) (rfl) (fun w28 hX F28 => ?_)
            replace hF := hF.thenDrew.thenO F28 (by first | exact .inr (by omega) | exact .inl rfl | exact .inl (by assumption) | assumption)
            refine wl_nil (x_then (hK108 _ _ ?_))
            clear hK108 K108
            refine forget [(0, _), (2, _), (4, _)] ⟨rfl, rfl, rfl, trivial⟩ (fun e => ?_)
            refine c_seq (fun K109 hK109 => ?_)
            refine c_reg ?_ -- region 77 syntaxm.go:160
            refine wl (ro_move rfl) ?_
            refine wl (ro_move rfl) ?_
            refine wl (ro_move rfl) ?_
            refine wl (ro_move rfl) ?_
            refine wl (ro_arith rfl rfl rfl (Go.IntWalk.i64_in _ (by omega))) ?_
            refine wl (ro_slice2 (q := q) (h := q + 1) rfl rfl rfl st_9 rfl (by omega) (by omega) (by omega) h1) ?_
            refine wl (ro_move rfl) ?_
            refine wl (ro_build rfl bld_144_0_1_3) ?_
            refine wl (ro_nilCheck rfl) ?_
            refine wl (ro_fieldAddr (k := 3) rfl fo_146_3) ?_
            refine wl_puta rfl rfl ((by simp [Value.oneCell', i64c, u64c, S])) sz_144 (rfl) hX ((by simp)) (rfl) (fun w29 hX F29 => ?_)
            replace hF := hF.thenDrew.thenO F29 (by first | exact .inr (by omega) | exact .inl rfl | exact .inl (by assumption) | assumption)
            refine wl_nil (x_then (hK109 _ _ ?_))
            clear hK109 K109
            refine c_ret (x_blkR (x_thenR ?_))
            refine bp_ret Tryz.results48 rfl ?_
            have h9 := nx_ok (pos' := q + 1) htk hT hA (fun _ => rfl)
            obtain ⟨e1, e2, e3, e4⟩ := sg_tok (q := q) hi
            exact ⟨rfl, hF, _, _, by rw [mpc_of e1 e2 e3 e4]; exact hX, by omega, h9.1, h9.2⟩
          · try simp only [decide_eq_true_eq, decide_eq_false_iff_not, Bool.not_eq_true', Bool.not_eq_false', Bool.not_eq_eq_eq_not, Bool.not_true, Bool.not_false, beq_iff_eq, bne_iff_ne, ne_eq, beq_eq_false_iff_ne, bne_eq_false_iff_eq, gt_iff_lt, ge_iff_le, Int.not_lt, Int.not_le] at hc342
            replace hall := And.intro hc342 hall
            refine c_skip (x_blk (x_then (hK90 _ _ ?_)))
            clear hK90 K90
            refine forget [(0, _), (2, _), (4, _)] ⟨rfl, rfl, rfl, trivial⟩ (fun e => ?_)
            refine c_seq (fun K110 hK110 => ?_)
            have hi : posS [c] sgL = none := by simpa using hc342
            rw [hi] at hA
            refine c_reg ?_ -- region 78 syntaxm.go:163
            refine wl (ro_move rfl) ?_
            refine wl (ro_move rfl) ?_
            refine wl (ro_lenS rfl st_9) ?_
            refine wl (ro_nilCheck rfl) ?_
            refine wl (ro_fieldAddr (k := 2) rfl fo_146_2) ?_
            refine wl_put rfl rfl rfl sz_3 hX (by simp) (rfl) (fun w30 hX F30 => ?_)
            replace hF := hF.thenDrew.thenO F30 (by first | exact .inr (by omega) | exact .inl rfl | exact .inl (by assumption) | assumption)
            refine wl_nil (x_then (hK110 _ _ ?_))
            clear hK110 K110
            refine c_reg ?_ -- region 79 syntaxm.go:164
            refine wl (ro_move rfl) ?_
            refine wl (ro_move rfl) ?_
            refine wl (ro_build rfl bld_144_0_4_3) ?_
            refine wl (ro_nilCheck rfl) ?_
            refine wl (ro_fieldAddr (k := 3) rfl fo_146_3) ?_
            refine wl_puta rfl rfl ((by simp [Value.oneCell', i64c, u64c, S])) sz_144 (rfl) hX ((by simp)) (rfl) (fun w31 hX F31 => ?_)
            replace hF := hF.thenDrew.thenO F31 (by first | exact .inr (by omega) | exact .inl rfl | exact .inl (by assumption) | assumption)
            refine wl_nil ?_
            refine bp_end Tryz.results48 rfl ?_
            have h9 := nx_ok (pos' := src.length) htk hT hA (fun h => by simp at h)
            exact ⟨rfl, hF, _, ⟨1, q, [], 0, 13⟩, hX, Nat.le_refl _, h9.1, h9.2⟩
end Go.Proofs.Qxb6500568aGreatDoor
