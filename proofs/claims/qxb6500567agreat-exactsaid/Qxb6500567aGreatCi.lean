import Derived.Test.Qxb6500567aGreatCh
/- The model's parser: repeats. -/
namespace Go.Proofs.Qxb6500567aGreat
set_option linter.unusedVariables false
set_option linter.unusedSimpArgs false

theorem pd_repL {p : List UInt8} {f i n g : Nat} {x : RE} : pd p (f + 1) (.repL x) i n g = match p[i]? with
    | none => .ok (x, i, n, g)
    | some b => if isSign b then
        match sgn p i b with
        | none => .error (3, i)
        | some (lo, hi, j) =>
          if hi = none ∧ nul x = true then .error (5, i) else
          if 24 ≤ n then .error (8, if p[j]? = some 63 then j + 1 else j) else
          pd p f (.repL (.rep x lo hi (decide (p[j]? = some 63)))) (if p[j]? = some 63 then j + 1 else j) (n + 1) g
      else .ok (x, i, n, g) := rfl

/-- What a loop holds. -/
def LI (w : World) (rb : Nat) (p : List UInt8) (B : Nat) (T : List RE) (VN : Value) (X : PRes) (Y : Nat → RE → Nat → Nat → Nat → Prop) (m : Nat) (v : Value) (w' : World) : Prop :=
  (∃ (x : RE) (j n1 g1 : Nat) (T1 : List RE) (VN1 : Value) (xs1 : List Value) (k : Nat), v = i64c k ∧ T1[k]? = some x ∧ MV w' rb p j n1 g1 T1 VN1 xs1 ∧ nob VN VN1 w ∧ (∃ U, T1 = T ++ U) ∧ Y m x j n1 g1) ∨ (m = 0 ∧ ∃ (e : Er) (z : Int), X = .error e ∧ e.1 ≠ 0 ∧ v = icv z ∧ ME w' rb p e B)

theorem PM.li {w w' : World} {rb : Nat} {p : List UInt8} {B m : Nat} {T : List RE} {VN v : Value} {X X1 : PRes} {Y : Nat → RE → Nat → Nat → Nat → Prop} (h : PM w rb p B T VN X1 v w') (he : ∀ e, X1 = .error e → X = .error e ∧ e.1 ≠ 0) (ho : ∀ x j n g, X1 = .ok (x, j, n, g) → Y m x j n g) : ∃ m0, LI w rb p B T VN X Y m0 v w' := by
  cases X1 with
  | error e => obtain ⟨⟨z, hz⟩, h2⟩ := h; exact ⟨0, .inr ⟨rfl, e, z, (he e rfl).1, (he e rfl).2, hz, h2⟩⟩
  | ok r =>
    obtain ⟨x, j, n, g⟩ := r
    obtain ⟨T', VN', xs', k, h1, h2, h3, h4, h5⟩ := h
    exact ⟨m, .inl ⟨x, j, n, g, T', VN', xs', k, h1, h2, h3, h4, h5, ho x j n g rfl⟩⟩

theorem AddM.li {w w1 w' : World} {rb : Nat} {p : List UInt8} {B m i n g : Nat} {T T1 : List RE} {VN VN1 v : Value} {X : PRes} {Y : Nat → RE → Nat → Nat → Nat → Prop} {r : RE} {F : Nat → Prop} (h : AddM w1 rb p i n g T1 VN1 r v w') (hl : T1.length = n) (hn : nob VN VN1 w) (hf : Fram F w w1) (hT : ∃ U, T1 = T ++ U) (hB : i ≤ B) (he : 24 ≤ n → X = .error (8, i)) (ho : n < 24 → Y m r i (n + 1) g) : ∃ m0, m0 ≤ m ∧ LI w rb p B T VN X Y m0 v w' := by
  rcases h with ⟨h1, h2, VN', xs', h3, h4⟩ | ⟨h1, h2, h3⟩
  · obtain ⟨U, rfl⟩ := hT
    exact ⟨m, Nat.le_refl _, .inl ⟨r, i, n + 1, g, _, VN', xs', n, h2, by rw [← hl]; simp, h3, hn.trans h4 hf, ⟨U ++ [r], by simp⟩, ho h1⟩⟩
  · exact ⟨0, Nat.zero_le _, .inr ⟨rfl, (8, i), -1, he h1, by simp, h2, h3.up hB⟩⟩

theorem CtM.to {rb : Nat} {p : List UInt8} {i : Nat} {VN : Value} {g : Nat} {r : Value} {w' : World} (h : CtM rb p i VN g r w') : ∃ (a c : Int) (o : Bool), r = .tuple #[icv a, icv c, .bool o] ∧
    ((o = false ∧ (∀ b, p[i]? = some b → isSign b = false) ∧ Blk w'.heap rb (rc p i VN g 0 0) 187) ∨
     (o = false ∧ ∃ b, p[i]? = some b ∧ isSign b = true ∧ sgn p i b = none ∧ ∃ k, k ≤ p.length ∧ Blk w'.heap rb (rc p k VN g 3 i) 187) ∨
     (o = true ∧ ∃ (b : UInt8) (lo : Nat) (hi : Option Nat) (j : Nat), p[i]? = some b ∧ isSign b = true ∧ sgn p i b = some (lo, hi, j) ∧ a = lo ∧ c = mxI hi ∧ Blk w'.heap rb (rc p j VN g 0 0) 187)) := by
  rcases h with ⟨h1, h2, h3⟩ | ⟨b, h1, h2, h3, h4, h5⟩ | ⟨b, lo, hi, j, h1, h2, h3, h4, h5⟩
  · exact ⟨0, 0, false, h2, .inl ⟨rfl, h1, h3⟩⟩
  · exact ⟨0, 0, false, h4, .inr (.inl ⟨rfl, b, h1, h2, h3, h5⟩)⟩
  · exact ⟨lo, mxI hi, true, h4, .inr (.inr ⟨rfl, b, lo, hi, j, h1, h2, h3, rfl, rfl, h5⟩)⟩

theorem MV.tr {w : World} {rb : Nat} {p : List UInt8} {i n g : Nat} {T : List RE} {VN : Value} {xs : List Value} (h : MV w rb p i n g T VN xs) (hn : 0 < n) : ∃ (nb cap : Nat) (c : Nat → Value), VN = .slice (some ⟨nb, 0, none⟩) n cap ∧ FB w.heap nb (cap * 11) c 89 ∧ n ≤ cap ∧ AR T c 0 := by
  obtain ⟨nb, cap, l, h1, h2, h3, h4, h5, h6⟩ := h.own.pos hn
  refine ⟨nb, cap, lf l, h1, ?_, h3, h.ar.congr ?_⟩
  · have := cel_of l
    rw [h5] at this
    rw [FB, ← this]
    exact h2
  · intro j hj _
    have hl := h.tl
    rw [hl] at hj
    have : xs[j]? = l[j]? := by rw [← h6, List.getElem?_take, if_pos (by omega)]
    simp only [lf, List.getD, this]

/-- What atom does. -/
def AtomC (p : List UInt8) (f : Nat) : Prop := ∀ (w : World) (rb d i n g : Nat) (T : List RE) (VN : Value) (xs : List Value) (X : PRes) (b : UInt8), MV w rb p i n g T VN xs → p[i]? = some b → d ≤ 5 → pd p f (.atom d) i n g = X → (∀ e, X = .error e → e.1 ≠ 0) →
  Ret Tryz.prog 144 [ptr rb, i64c d] w (fun v w' => PM w rb p (p.length + 10 - d) T VN X v w' ∧ Fram (mfr rb VN) w w')

def repX (p : List UInt8) (f d i n g : Nat) : PRes := match pd p f (.atom d) i n g with
  | .error e => .error e
  | .ok (x, i, n, g) => pd p f (.repL x) i n g

set_option maxHeartbeats 4000000 in
theorem rep133 {w : World} {rb : Nat} {p : List UInt8} {f d i n g : Nat} {T : List RE} {VN : Value} {xs : List Value} {X : PRes} {b : UInt8} (hA : AtomC p f) (M : MV w rb p i n g T VN xs) (hb : p[i]? = some b) (hd : d ≤ 5) (hX : repX p f d i n g = X) (hE : ∀ e, X = .error e → e.1 ≠ 0) :
    Ret Tryz.prog 133 [ptr rb, i64c d] w (fun v w' => PM w rb p (p.length + 10 - d) T VN X v w' ∧ Fram (mfr rb VN) w w') := by
  have hpl := M.pl
  have hmr : mfr rb VN rb := .inl rfl
  unfold repX at hX
  have hE2 : ∀ e, pd p f (.atom d) i n g = .error e → e.1 ≠ 0 := fun e h => hE e (by rw [← hX, h])
  refine ret_of Tryz.func133 rfl Tryz.ntmps133 rfl ?_
  refine c_seq (fun K1 hK1 => ?_)
  refine c_reg ?_ -- region 0 syntaxm.go:124
  refine wl (ro_assign rfl) ?_
  refine wl_nil (x_then (hK1 _ _ ?_))
  clear hK1 K1
  refine forget [(0, _), (1, _)] ⟨rfl, rfl, trivial⟩ (fun e => ?_)
  refine c_seq (fun K2 hK2 => ?_)
  refine c_reg ?_ -- region 1 syntaxm.go:125
  refine wl (ro_move rfl) ?_
  refine wl (ro_move rfl) ?_
  refine wl_call rfl en_144 (hA w rb d i n g T VN xs _ b M hb hd rfl hE2) ?_
  rintro v w1 ⟨hP, hF⟩
  obtain ⟨m0, hI⟩ := hP.li (X := X) (m := f) (Y := fun m x j n g => pd p m (.repL x) j n g = X) (fun e h => ⟨by rw [← hX, h], hE2 e h⟩) (fun x j n g h => by rw [← hX, h])
  clear hP hX
  refine wl (ro_assign rfl) ?_
  refine wl_nil (x_then (hK2 _ _ ?_))
  clear hK2 K2
  refine forget [(0, _), (5, _)] ⟨rfl, rfl, trivial⟩ (fun e => ?_)
  refine c_seq (fun K3 hK3 => ?_)
  refine c_block ?_
  -- loop@r2: live slots [0, 5]
  refine c_loopG (fun m a' w' => ∃ v, LI w rb p (p.length + 10 - d) T VN X (fun m x j n g => pd p m (.repL x) j n g = X) m v w' ∧ Fram (mfr rb VN) w w' ∧ ∃ e, a' = Fr 61 (upds e [(0, ptr rb), (5, v)]) []) m0 ⟨v, hI, hF, kp _ ⟨rfl, rfl, trivial⟩⟩ ?_
  clear hI hF v
  rintro m a' w2 ⟨v, hI, hF, e, rfl⟩
  refine c_seq (fun K4 hK4 => ?_)
  refine c_seq (fun K5 hK5 => ?_)
  rcases hI with ⟨x, j, n1, g1, T1, VN1, xs1, k, rfl, hTk, M1, hn1, hU1, hX⟩ | ⟨rfl, e1, z, hX, he1, rfl, k1, a1, l1, c1, gg1, hk1, hB⟩
  · skip
    have hB := M1.blk
    have hG : Fram (one rb) w2 w2 := Fram.refl _ _
    have htl := M1.tl
    subst htl
    have hlk : k < T1.length := ND.u (cs := []) hTk
    have hjl := M1.il
    obtain ⟨m, rfl⟩ : ∃ k, m = k + 1 := by
      cases m with
      | zero => exact absurd rfl (hE (0, 0) (by rw [← hX, pd_zero]))
      | succ k => exact ⟨k, rfl⟩
    rw [pd_repL] at hX
    obtain ⟨nb, cap, cc, hV1, hT1, hcap, hAR⟩ := M1.tr (by omega)
    subst hV1
    refine c_reg ?_ -- region 2 syntaxm.go:126
    refine wl (ro_move rfl) ?_
    refine wl (ro_nilCheck rfl) ?_
    refine wl (ro_fieldAddr (k := 4) rfl fo_187_4) ?_
    refine wl (ro_loadB rfl sc_53 (hB) (rfl)) ?_
    refine wl (ro_cmp (r := true) rfl rfl rfl) ?_
    refine wl_nil (x_then (hK5 _ _ ?_))
    clear hK5 K5
    refine wc_condT rfl ?_
    refine c_skip (x_then (hK4 _ _ ?_))
    clear hK4 K4
    refine c_block ?_
    refine forget [(0, _), (5, _)] ⟨rfl, rfl, trivial⟩ (fun e => ?_)
    refine c_seq (fun K6 hK6 => ?_)
    refine c_reg ?_ -- region 3 syntaxm.go:127
    refine wl (ro_move rfl) ?_
    refine wl (ro_nilCheck rfl) ?_
    refine wl (ro_fieldAddr (k := 1) rfl fo_187_1) ?_
    refine wl (ro_loadB rfl sc_3 (hB) (rfl)) ?_
    refine wl (ro_assign rfl) ?_
    refine wl_nil (x_then (hK6 _ _ ?_))
    clear hK6 K6
    refine forget [(0, _), (5, _), (6, _)] ⟨rfl, rfl, rfl, trivial⟩ (fun e => ?_)
    refine c_seq (fun K7 hK7 => ?_)
    refine c_reg ?_ -- region 4 syntaxm.go:128
    refine wl (ro_move rfl) ?_
    refine wl_call rfl en_145 (count145 hB M1.il M1.pl) ?_
    rintro r w3 ⟨hC0, F3⟩
    obtain ⟨a, c, o, rfl, hC⟩ := hC0.to
    clear hC0
    clear hB
    replace hF := hF.mfrO F3
    replace hG := hG.trans F3
    refine wl (ro_move rfl) ?_
    refine wl (ro_extract rfl rfl) ?_
    refine wl (ro_extract rfl rfl) ?_
    refine wl (ro_extract rfl rfl) ?_
    refine wl (ro_assign rfl) ?_
    refine wl (ro_assign rfl) ?_
    refine wl (ro_assign rfl) ?_
    refine wl_nil (x_then (hK7 _ _ ?_))
    clear hK7 K7
    refine c_seq (fun K8 hK8 => ?_)
    refine c_seq (fun K9 hK9 => ?_)
    rcases hC with ⟨rfl, hno, hB⟩ | ⟨rfl, b, hb, hs, hg, k3, hk3, hB⟩ | ⟨rfl, b, lo, hi, j3, hb, hs, hg, rfl, rfl, hB⟩
    · skip
      have hXo : X = .ok (x, j, T1.length, g1) := by
        rw [← hX]
        cases hpj : p[j]? with
        | none => rfl
        | some b => simp [hno b hpj]
      refine c_reg ?_ -- region 5 syntaxm.go:129
      refine wl (ro_move rfl) ?_
      refine wl (ro_not rfl) ?_
      refine wl_nil (x_then (hK9 _ _ ?_))
      clear hK9 K9
      refine wc_condT rfl ?_
      refine c_exit (x_thenX (x_blkY rfl (x_thenX (x_blkX (x_then (hK3 _ _ ?_))))))
      clear hK8 K8 hK3 K3
      refine forget [(5, _)] ⟨rfl, trivial⟩ (fun e => ?_)
      refine c_seq (fun K10 hK10 => ?_)
      refine c_reg ?_ -- region 13 syntaxm.go:143
      refine wl (ro_move rfl) ?_
      refine wl (ro_assign rfl) ?_
      refine wl_nil (x_then (hK10 _ _ ?_))
      clear hK10 K10
      refine c_ret ?_
      refine bp_ret Tryz.results133 rfl ?_
      exact ⟨by rw [hXo]; exact ⟨T1, _, xs1, k, rfl, hTk, M1.at (i' := j) hB hG M1.il, hn1, hU1⟩, hF⟩
    · skip
      have hXe : X = .error (3, j) := by rw [← hX, hb]; simp [hs, hg]
      refine c_reg ?_ -- region 5 syntaxm.go:129
      refine wl (ro_move rfl) ?_
      refine wl (ro_not rfl) ?_
      refine wl_nil (x_then (hK9 _ _ ?_))
      clear hK9 K9
      refine wc_condT rfl ?_
      refine c_exit (x_thenX (x_blkY rfl (x_thenX (x_blkX (x_then (hK3 _ _ ?_))))))
      clear hK8 K8 hK3 K3
      refine forget [(5, _)] ⟨rfl, trivial⟩ (fun e => ?_)
      refine c_seq (fun K11 hK11 => ?_)
      refine c_reg ?_ -- region 13 syntaxm.go:143
      refine wl (ro_move rfl) ?_
      refine wl (ro_assign rfl) ?_
      refine wl_nil (x_then (hK11 _ _ ?_))
      clear hK11 K11
      refine c_ret ?_
      refine bp_ret Tryz.results133 rfl ?_
      exact ⟨PM.er (e := (3, j)) hXe ⟨_, rfl⟩ (M1.me (g' := g1) hB (by omega)), hF⟩
    · skip
      have hXs : (if hi = none ∧ nul x = true then .error (5, j) else
          if 24 ≤ T1.length then .error (8, if p[j3]? = some 63 then j3 + 1 else j3) else
          pd p m (.repL (.rep x lo hi (decide (p[j3]? = some 63)))) (if p[j3]? = some 63 then j3 + 1 else j3) (T1.length + 1) g1) = X := by rw [← hX, hb]; simp [hs, hg]
      have hj3 := (sgn_ok (get_lt hb) hg).2.2.2
      have hcnt : lo ≤ 3 ∧ ∀ m, hi = some m → lo ≤ m ∧ m ≤ 3 := ⟨(sgn_ok (get_lt hb) hg).1, (sgn_ok (get_lt hb) hg).2.1⟩
      refine c_reg ?_ -- region 5 syntaxm.go:129
      refine wl (ro_move rfl) ?_
      refine wl (ro_not rfl) ?_
      refine wl_nil (x_then (hK9 _ _ ?_))
      clear hK9 K9
      refine wc_condF rfl ?_
      refine c_skip (x_then (hK8 _ _ ?_))
      clear hK8 K8
      refine forget [(0, _), (5, _), (6, _), (7, _), (8, _)] ⟨rfl, rfl, rfl, rfl, rfl, trivial⟩ (fun e => ?_)
      refine c_seq (fun K12 hK12 => ?_)
      refine c_reg ?_ -- region 6 syntaxm.go:132
      refine wl (ro_move rfl) ?_
      refine wl_call rfl en_115 (is115 (c := 63) hB) ?_
      rintro _ w1 ⟨rfl, F1⟩
      replace hF := hF.thenDrew.thenN F1
      replace hG := hG.thenDrew.thenN F1
      replace hB := F1.blkN hB
      refine wl (ro_assign rfl) ?_
      refine wl_nil (x_then (hK12 _ _ ?_))
      clear hK12 K12
      refine c_seq (fun K13 hK13 => ?_)
      refine c_seq (fun K14 hK14 => ?_)
      refine c_reg ?_ -- region 7 syntaxm.go:133
      refine wl (ro_move rfl) ?_
      refine wl_nil (x_then (hK14 _ _ ?_))
      clear hK14 K14
      refine wc_cond rfl (fun hc33 => ?_) (fun hc33 => ?_)
      · try simp only [decide_eq_true_eq, decide_eq_false_iff_not, Bool.not_eq_true', Bool.not_eq_false', Bool.not_eq_eq_eq_not, Bool.not_true, Bool.not_false, beq_iff_eq, bne_iff_ne, ne_eq, beq_eq_false_iff_ne, bne_eq_false_iff_eq, gt_iff_lt, ge_iff_le, Int.not_lt, Int.not_le] at hc33
        have h63 : p[j3]? = some 63 := hc33
        have hlt3 := get_lt h63
        rw [if_pos h63] at hXs
        refine c_reg ?_ -- region 8 syntaxm.go:134
        refine wl (ro_move rfl) ?_
        refine wl (ro_nilCheck rfl) ?_
        refine wl (ro_fieldAddr (k := 1) rfl fo_187_1) ?_
        refine wl (ro_loadB rfl sc_3 (hB) (rfl)) ?_
        refine wl (ro_arith rfl rfl rfl (Go.IntWalk.i64_in _ (by omega))) ?_
        refine wl (ro_nilCheck rfl) ?_
        refine wl (ro_fieldAddr (k := 1) rfl fo_187_1) ?_
        refine wl_put rfl rfl rfl sz_3 hB ((by simp)) (rfl) (fun w2 hB F2 => ?_)
        replace hF := hF.thenDrew.thenO F2 (by first | exact .inr (by omega) | exact .inl rfl | exact .inl (by assumption))
        replace hG := hG.thenDrew.thenO F2 (by first | exact .inr (by omega) | exact .inl rfl | exact .inl (by assumption))
        refine wl_nil (x_then (hK13 _ _ ?_))
        clear hK13 K13
        refine c_seq (fun K15 hK15 => ?_)
        refine c_seq (fun K16 hK16 => ?_)
        rcases hi with _ | mx
        · skip
          have hT9 : FB _ nb (cap * 11) cc 89 := hT1.fram hG (fun h => M1.own.neblk M1.blk (by decide) nb rfl h)
          refine c_reg ?_ -- region 9 syntaxm.go:136
          refine wl (ro_move rfl) ?_
          refine wl (ro_cmp (r := true) rfl rfl rfl) ?_
          refine wl_nil (x_then (hK16 _ _ ?_))
          clear hK16 K16
          refine wc_condT rfl ?_
          refine c_seq (fun K17 hK17 => ?_)
          refine c_reg ?_ -- region 10 syntaxm.go:137
          refine wl (ro_move rfl) ?_
          refine wl (ro_nilCheck rfl) ?_
          refine wl (ro_fieldAddr (k := 2) rfl fo_187_2) ?_
          refine wl (ro_loadB rfl sc_98 (hB) (rfl)) ?_
          refine wl (ro_build rfl bld_151_0) ?_
          refine wl (ro_move rfl) ?_
          refine wl_call rfl en_146 (Nullable146 (T := T1) hcap hAR k hT9 hTk) ?_
          rintro _ w3 ⟨rfl, F3⟩
          replace hF := hF.thenDrew.thenN F3
          replace hG := hG.thenDrew.thenN F3
          replace hB := F3.blkN hB
          refine wl_nil (x_then (hK17 _ _ ?_))
          clear hK17 K17
          refine wc_cond rfl (fun hc49 => ?_) (fun hc49 => ?_)
          · try simp only [decide_eq_true_eq, decide_eq_false_iff_not, Bool.not_eq_true', Bool.not_eq_false', Bool.not_eq_eq_eq_not, Bool.not_true, Bool.not_false, beq_iff_eq, bne_iff_ne, ne_eq, beq_eq_false_iff_ne, bne_eq_false_iff_eq, gt_iff_lt, ge_iff_le, Int.not_lt, Int.not_le] at hc49
            rw [if_pos ⟨rfl, hc49⟩] at hXs
            refine c_seq (fun K18 hK18 => ?_)
            refine c_reg ?_ -- region 11 syntaxm.go:138
            refine wl (ro_move rfl) ?_
            refine wl (ro_move rfl) ?_
            refine wl_call rfl en_90 (fail90 hB) ?_
            rintro _ w9 ⟨rfl, hB, F9⟩
            have hfin : PM w rb p (p.length + 10 - d) T VN X (icv (-1)) w9 ∧ Fram (mfr rb VN) w w9 := ⟨PM.er (e := (5, j)) hXs.symm ⟨_, rfl⟩ (by first | exact M1.me (k := j3 + 1) (g' := g1) hB (by omega) | exact M1.me (k := j3) (g' := g1) hB (by omega)), hF.mfrO F9⟩
            refine wl (ro_assign rfl) ?_
            refine wl_nil (x_then (hK18 _ _ ?_))
            clear hK18 K18
            refine c_ret (x_thenR (x_blkR (x_thenR (x_blkR (x_thenR ?_)))))
            refine bp_ret Tryz.results133 rfl ?_
            exact hfin
          · try simp only [decide_eq_true_eq, decide_eq_false_iff_not, Bool.not_eq_true', Bool.not_eq_false', Bool.not_eq_eq_eq_not, Bool.not_true, Bool.not_false, beq_iff_eq, bne_iff_ne, ne_eq, beq_eq_false_iff_ne, bne_eq_false_iff_eq, gt_iff_lt, ge_iff_le, Int.not_lt, Int.not_le] at hc49
            rw [if_neg (by simp [hc49])] at hXs
            refine c_skip (x_then (hK15 _ _ ?_))
            clear hK15 K15
            refine c_reg ?_ -- region 12 syntaxm.go:141
            refine wl (ro_move rfl) ?_
            refine wl (ro_move rfl) ?_
            refine wl (ro_move rfl) ?_
            refine wl (ro_move rfl) ?_
            refine wl (ro_move rfl) ?_
            refine wl (ro_build rfl bld_89_0_1_2_3_4_6) ?_
            rw [nd0]
            refine wl_call rfl en_116 (add116 (M1.at (i' := j3 + 1) hB hG (by omega)) (nd_rep (lz := decide (p[j3]? = some 63)) (hi := none) hlk hTk hcnt)) ?_
            rintro v9 w9 ⟨hA9, F9⟩
            obtain ⟨m9, hm9, hI9⟩ := hA9.li (w := w) (B := p.length + 10 - d) (X := X) (m := m) (Y := fun m x j n g => pd p m (.repL x) j n g = X) rfl hn1 hF hU1 (by omega) (fun h => by rw [if_pos h] at hXs; exact hXs.symm) (fun h => by rw [if_neg (by omega)] at hXs; exact hXs)
            replace hF := hF.mfrM F9 hn1
            refine wl (ro_assign rfl) ?_
            refine wl_nil (x_blk (x_then ?_))
            exact ⟨m9, by omega, v9, hI9, hF, kp _ ⟨rfl, rfl, trivial⟩⟩
        · skip
          rw [if_neg (by simp)] at hXs
          refine c_reg ?_ -- region 9 syntaxm.go:136
          refine wl (ro_move rfl) ?_
          refine wl (ro_cmp (r := false) rfl rfl (congrArg some (decide_eq_false (by simp only [mxI]; omega)))) ?_
          refine wl_nil (x_then (hK16 _ _ ?_))
          clear hK16 K16
          refine wc_condF rfl ?_
          refine c_skip (x_then (hK15 _ _ ?_))
          clear hK15 K15
          refine c_reg ?_ -- region 12 syntaxm.go:141
          refine wl (ro_move rfl) ?_
          refine wl (ro_move rfl) ?_
          refine wl (ro_move rfl) ?_
          refine wl (ro_move rfl) ?_
          refine wl (ro_move rfl) ?_
          refine wl (ro_build rfl bld_89_0_1_2_3_4_6) ?_
          rw [nd0]
          refine wl_call rfl en_116 (add116 (M1.at (i' := j3 + 1) hB hG (by omega)) (nd_rep (lz := decide (p[j3]? = some 63)) (hi := some mx) hlk hTk hcnt)) ?_
          rintro v9 w9 ⟨hA9, F9⟩
          obtain ⟨m9, hm9, hI9⟩ := hA9.li (w := w) (B := p.length + 10 - d) (X := X) (m := m) (Y := fun m x j n g => pd p m (.repL x) j n g = X) rfl hn1 hF hU1 (by omega) (fun h => by rw [if_pos h] at hXs; exact hXs.symm) (fun h => by rw [if_neg (by omega)] at hXs; exact hXs)
          replace hF := hF.mfrM F9 hn1
          refine wl (ro_assign rfl) ?_
          refine wl_nil (x_blk (x_then ?_))
          exact ⟨m9, by omega, v9, hI9, hF, kp _ ⟨rfl, rfl, trivial⟩⟩
      · try simp only [decide_eq_true_eq, decide_eq_false_iff_not, Bool.not_eq_true', Bool.not_eq_false', Bool.not_eq_eq_eq_not, Bool.not_true, Bool.not_false, beq_iff_eq, bne_iff_ne, ne_eq, beq_eq_false_iff_ne, bne_eq_false_iff_eq, gt_iff_lt, ge_iff_le, Int.not_lt, Int.not_le] at hc33
        have h63 : ¬ p[j3]? = some 63 := hc33
        rw [if_neg h63] at hXs
        refine c_skip (x_then (hK13 _ _ ?_))
        clear hK13 K13
        refine c_seq (fun K19 hK19 => ?_)
        refine c_seq (fun K20 hK20 => ?_)
        rcases hi with _ | mx
        · skip
          have hT9 : FB _ nb (cap * 11) cc 89 := hT1.fram hG (fun h => M1.own.neblk M1.blk (by decide) nb rfl h)
          refine c_reg ?_ -- region 9 syntaxm.go:136
          refine wl (ro_move rfl) ?_
          refine wl (ro_cmp (r := true) rfl rfl rfl) ?_
          refine wl_nil (x_then (hK20 _ _ ?_))
          clear hK20 K20
          refine wc_condT rfl ?_
          refine c_seq (fun K21 hK21 => ?_)
          refine c_reg ?_ -- region 10 syntaxm.go:137
          refine wl (ro_move rfl) ?_
          refine wl (ro_nilCheck rfl) ?_
          refine wl (ro_fieldAddr (k := 2) rfl fo_187_2) ?_
          refine wl (ro_loadB rfl sc_98 (hB) (rfl)) ?_
          refine wl (ro_build rfl bld_151_0) ?_
          refine wl (ro_move rfl) ?_
          refine wl_call rfl en_146 (Nullable146 (T := T1) hcap hAR k hT9 hTk) ?_
          rintro _ w4 ⟨rfl, F4⟩
          replace hF := hF.thenDrew.thenN F4
          replace hG := hG.thenDrew.thenN F4
          replace hB := F4.blkN hB
          refine wl_nil (x_then (hK21 _ _ ?_))
          clear hK21 K21
          refine wc_cond rfl (fun hc49 => ?_) (fun hc49 => ?_)
          · try simp only [decide_eq_true_eq, decide_eq_false_iff_not, Bool.not_eq_true', Bool.not_eq_false', Bool.not_eq_eq_eq_not, Bool.not_true, Bool.not_false, beq_iff_eq, bne_iff_ne, ne_eq, beq_eq_false_iff_ne, bne_eq_false_iff_eq, gt_iff_lt, ge_iff_le, Int.not_lt, Int.not_le] at hc49
            rw [if_pos ⟨rfl, hc49⟩] at hXs
            refine c_seq (fun K22 hK22 => ?_)
            refine c_reg ?_ -- region 11 syntaxm.go:138
            refine wl (ro_move rfl) ?_
            refine wl (ro_move rfl) ?_
            refine wl_call rfl en_90 (fail90 hB) ?_
            rintro _ w9 ⟨rfl, hB, F9⟩
            have hfin : PM w rb p (p.length + 10 - d) T VN X (icv (-1)) w9 ∧ Fram (mfr rb VN) w w9 := ⟨PM.er (e := (5, j)) hXs.symm ⟨_, rfl⟩ (by first | exact M1.me (k := j3 + 1) (g' := g1) hB (by omega) | exact M1.me (k := j3) (g' := g1) hB (by omega)), hF.mfrO F9⟩
            refine wl (ro_assign rfl) ?_
            refine wl_nil (x_then (hK22 _ _ ?_))
            clear hK22 K22
            refine c_ret (x_thenR (x_blkR (x_thenR (x_blkR (x_thenR ?_)))))
            refine bp_ret Tryz.results133 rfl ?_
            exact hfin
          · try simp only [decide_eq_true_eq, decide_eq_false_iff_not, Bool.not_eq_true', Bool.not_eq_false', Bool.not_eq_eq_eq_not, Bool.not_true, Bool.not_false, beq_iff_eq, bne_iff_ne, ne_eq, beq_eq_false_iff_ne, bne_eq_false_iff_eq, gt_iff_lt, ge_iff_le, Int.not_lt, Int.not_le] at hc49
            rw [if_neg (by simp [hc49])] at hXs
            refine c_skip (x_then (hK19 _ _ ?_))
            clear hK19 K19
            refine c_reg ?_ -- region 12 syntaxm.go:141
            refine wl (ro_move rfl) ?_
            refine wl (ro_move rfl) ?_
            refine wl (ro_move rfl) ?_
            refine wl (ro_move rfl) ?_
            refine wl (ro_move rfl) ?_
            refine wl (ro_build rfl bld_89_0_1_2_3_4_6) ?_
            rw [nd0]
            refine wl_call rfl en_116 (add116 (M1.at (i' := j3) hB hG (by omega)) (nd_rep (lz := decide (p[j3]? = some 63)) (hi := none) hlk hTk hcnt)) ?_
            rintro v9 w9 ⟨hA9, F9⟩
            obtain ⟨m9, hm9, hI9⟩ := hA9.li (w := w) (B := p.length + 10 - d) (X := X) (m := m) (Y := fun m x j n g => pd p m (.repL x) j n g = X) rfl hn1 hF hU1 (by omega) (fun h => by rw [if_pos h] at hXs; exact hXs.symm) (fun h => by rw [if_neg (by omega)] at hXs; exact hXs)
            replace hF := hF.mfrM F9 hn1
            refine wl (ro_assign rfl) ?_
            refine wl_nil (x_blk (x_then ?_))
            exact ⟨m9, by omega, v9, hI9, hF, kp _ ⟨rfl, rfl, trivial⟩⟩
        · skip
          rw [if_neg (by simp)] at hXs
          refine c_reg ?_ -- region 9 syntaxm.go:136
          refine wl (ro_move rfl) ?_
          refine wl (ro_cmp (r := false) rfl rfl (congrArg some (decide_eq_false (by simp only [mxI]; omega)))) ?_
          refine wl_nil (x_then (hK20 _ _ ?_))
          clear hK20 K20
          refine wc_condF rfl ?_
          refine c_skip (x_then (hK19 _ _ ?_))
          clear hK19 K19
          refine c_reg ?_ -- region 12 syntaxm.go:141
          refine wl (ro_move rfl) ?_
          refine wl (ro_move rfl) ?_
          refine wl (ro_move rfl) ?_
          refine wl (ro_move rfl) ?_
          refine wl (ro_move rfl) ?_
          refine wl (ro_build rfl bld_89_0_1_2_3_4_6) ?_
          rw [nd0]
          refine wl_call rfl en_116 (add116 (M1.at (i' := j3) hB hG (by omega)) (nd_rep (lz := decide (p[j3]? = some 63)) (hi := some mx) hlk hTk hcnt)) ?_
          rintro v9 w9 ⟨hA9, F9⟩
          obtain ⟨m9, hm9, hI9⟩ := hA9.li (w := w) (B := p.length + 10 - d) (X := X) (m := m) (Y := fun m x j n g => pd p m (.repL x) j n g = X) rfl hn1 hF hU1 (by omega) (fun h => by rw [if_pos h] at hXs; exact hXs.symm) (fun h => by rw [if_neg (by omega)] at hXs; exact hXs)
          replace hF := hF.mfrM F9 hn1
          refine wl (ro_assign rfl) ?_
          refine wl_nil (x_blk (x_then ?_))
          exact ⟨m9, by omega, v9, hI9, hF, kp _ ⟨rfl, rfl, trivial⟩⟩
  · skip
    have hG : Fram (one rb) w2 w2 := Fram.refl _ _
    refine c_reg ?_ -- region 2 syntaxm.go:126
    refine wl (ro_move rfl) ?_
    refine wl (ro_nilCheck rfl) ?_
    refine wl (ro_fieldAddr (k := 4) rfl fo_187_4) ?_
    refine wl (ro_loadB rfl sc_53 (hB) (rfl)) ?_
    refine wl (ro_cmp (r := false) rfl rfl (congrArg some ((beqc e1.1 0).trans (decide_eq_false he1)))) ?_
    refine wl_nil (x_then (hK5 _ _ ?_))
    clear hK5 K5
    refine wc_condF rfl ?_
    refine c_exit (x_thenX (x_thenX (x_blkX (x_then (hK3 _ _ ?_)))))
    clear hK4 K4 hK3 K3
    refine forget [(5, _)] ⟨rfl, trivial⟩ (fun e => ?_)
    refine c_seq (fun K23 hK23 => ?_)
    refine c_reg ?_ -- region 13 syntaxm.go:143
    refine wl (ro_move rfl) ?_
    refine wl (ro_assign rfl) ?_
    refine wl_nil (x_then (hK23 _ _ ?_))
    clear hK23 K23
    refine c_ret ?_
    refine bp_ret Tryz.results133 rfl ?_
    exact ⟨PM.er hX ⟨z, rfl⟩ ⟨k1, a1, l1, c1, gg1, hk1, hB⟩, hF⟩

end Go.Proofs.Qxb6500567aGreat
