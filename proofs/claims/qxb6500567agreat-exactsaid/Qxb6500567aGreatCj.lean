import Derived.Test.Qxb6500567aGreatCi
/- The model's parser: sequences, choices. -/
namespace Go.Proofs.Qxb6500567aGreat
set_option linter.unusedVariables false
set_option linter.unusedSimpArgs false

theorem pd_catL {p : List UInt8} {f d i n g : Nat} {l : Option RE} : pd p (f + 1) (.catL d l) i n g = if p[i]? = none ∨ p[i]? = some 124 ∨ p[i]? = some 41 then
      match l with
      | none => if 24 ≤ n then .error (8, i) else .ok (.emp, i, n + 1, g)
      | some l => .ok (l, i, n, g)
    else match repX p f d i n g with
      | .error e => .error e
      | .ok (x, i, n, g) => match l with
        | none => pd p f (.catL d (some x)) i n g
        | some l => if 24 ≤ n then .error (8, i) else pd p f (.catL d (some (.cat l x))) i (n + 1) g := by
  have h : pd p (f + 1) (.catL d l) i n g = if p[i]? = none ∨ p[i]? = some 124 ∨ p[i]? = some 41 then
      match l with
      | none => if 24 ≤ n then .error (8, i) else .ok (.emp, i, n + 1, g)
      | some l => .ok (l, i, n, g)
    else match pd p f (.atom d) i n g with
      | .error e => .error e
      | .ok (x, i, n, g) => match pd p f (.repL x) i n g with
        | .error e => .error e
        | .ok (x, i, n, g) => match l with
          | none => pd p f (.catL d (some x)) i n g
          | some l => if 24 ≤ n then .error (8, i) else pd p f (.catL d (some (.cat l x))) i (n + 1) g := rfl
  rw [h]
  unfold repX
  cases pd p f (.atom d) i n g with
  | error e => rfl
  | ok r => rfl

theorem pd_pos {p : List UInt8} {m : Nat} {md : Md} {i n g : Nat} {X : PRes} (hX : pd p m md i n g = X) (hE : ∀ e, X = .error e → e.1 ≠ 0) : ∃ k, m = k + 1 := by
  cases m with
  | zero => exact absurd rfl (hE (0, 0) (by rw [← hX, pd_zero]))
  | succ k => exact ⟨k, rfl⟩

/-- What cat's loop holds. -/
def CI (w : World) (rb : Nat) (p : List UInt8) (B d : Nat) (T : List RE) (VN : Value) (X : PRes) (m : Nat) (v : Value) (w' : World) : Prop :=
  (∃ (l : Option RE) (j n1 g1 : Nat) (T1 : List RE) (VN1 : Value) (xs1 : List Value), IX T1 l v ∧ MV w' rb p j n1 g1 T1 VN1 xs1 ∧ nob VN VN1 w ∧ (∃ U, T1 = T ++ U) ∧ pd p m (.catL d l) j n1 g1 = X) ∨ (m = 0 ∧ ∃ (e : Er) (z : Int), X = .error e ∧ e.1 ≠ 0 ∧ v = icv z ∧ ME w' rb p e B)

theorem AddM.ci {w w1 w' : World} {rb : Nat} {p : List UInt8} {B m i n g d : Nat} {T T1 : List RE} {VN VN1 v : Value} {X : PRes} {r : RE} {F : Nat → Prop} (h : AddM w1 rb p i n g T1 VN1 r v w') (hl : T1.length = n) (hn : nob VN VN1 w) (hf : Fram F w w1) (hT : ∃ U, T1 = T ++ U) (hB : i ≤ B) (he : 24 ≤ n → X = .error (8, i)) (ho : n < 24 → pd p m (.catL d (some r)) i (n + 1) g = X) : ∃ m0, m0 ≤ m ∧ CI w rb p B d T VN X m0 v w' := by
  rcases h with ⟨h1, h2, VN', xs', h3, h4⟩ | ⟨h1, h2, h3⟩
  · obtain ⟨U, rfl⟩ := hT
    exact ⟨m, Nat.le_refl _, .inl ⟨some r, i, n + 1, g, _, VN', xs', ⟨n, by rw [← hl]; simp, h2⟩, h3, hn.trans h4 hf, ⟨U ++ [r], by simp⟩, ho h1⟩⟩
  · exact ⟨0, Nat.zero_le _, .inr ⟨rfl, (8, i), -1, he h1, by simp, h2, h3.up hB⟩⟩

/-- What rep, cat do. -/
def RepC (p : List UInt8) (f : Nat) : Prop := ∀ (w : World) (rb d i n g : Nat) (T : List RE) (VN : Value) (xs : List Value) (X : PRes) (b : UInt8), MV w rb p i n g T VN xs → p[i]? = some b → d ≤ 5 → repX p f d i n g = X → (∀ e, X = .error e → e.1 ≠ 0) →
  Ret Tryz.prog 133 [ptr rb, i64c d] w (fun v w' => PM w rb p (p.length + 10 - d) T VN X v w' ∧ Fram (mfr rb VN) w w')
def CatC (p : List UInt8) (f : Nat) : Prop := ∀ (w : World) (rb d i n g : Nat) (T : List RE) (VN : Value) (xs : List Value) (X : PRes), MV w rb p i n g T VN xs → d ≤ 5 → pd p f (.catL d none) i n g = X → (∀ e, X = .error e → e.1 ≠ 0) →
  Ret Tryz.prog 114 [ptr rb, i64c d] w (fun v w' => PM w rb p (p.length + 10 - d) T VN X v w' ∧ Fram (mfr rb VN) w w')

set_option maxHeartbeats 4000000 in
theorem cat114 {w : World} {rb : Nat} {p : List UInt8} {f d i n g : Nat} {T : List RE} {VN : Value} {xs : List Value} {X : PRes} (hA : ∀ f', f' < f → RepC p f') (M : MV w rb p i n g T VN xs) (hd : d ≤ 5) (hX : pd p f (.catL d none) i n g = X) (hE : ∀ e, X = .error e → e.1 ≠ 0) :
    Ret Tryz.prog 114 [ptr rb, i64c d] w (fun v w' => PM w rb p (p.length + 10 - d) T VN X v w' ∧ Fram (mfr rb VN) w w') := by
  have hpl := M.pl
  have hmr : mfr rb VN rb := .inl rfl
  refine ret_of Tryz.func114 rfl Tryz.ntmps114 rfl ?_
  refine c_seq (fun K1 hK1 => ?_)
  refine c_reg ?_ -- region 0 syntaxm.go:58
  refine wl (ro_assign rfl) ?_
  refine wl_nil (x_then (hK1 _ _ ?_))
  clear hK1 K1
  refine forget [(0, _), (1, _)] ⟨rfl, rfl, trivial⟩ (fun e => ?_)
  refine c_seq (fun K2 hK2 => ?_)
  refine c_reg ?_ -- region 1 syntaxm.go:59
  refine wl (ro_assign rfl) ?_
  refine wl_nil (x_then (hK2 _ _ ?_))
  clear hK2 K2
  refine forget [(0, _), (1, _), (5, _)] ⟨rfl, rfl, rfl, trivial⟩ (fun e => ?_)
  refine c_seq (fun K3 hK3 => ?_)
  refine c_block ?_
  -- loop@r2: live slots [0, 1, 5]
  refine c_loopG (fun m a' w' => m ≤ f ∧ ∃ v, CI w rb p (p.length + 10 - d) d T VN X m v w' ∧ Fram (mfr rb VN) w w' ∧ ∃ e, a' = Fr 65 (upds e [(0, ptr rb), (1, i64c d), (5, v)]) []) f ⟨Nat.le_refl _, icv (-1), .inl ⟨none, i, n, g, T, VN, xs, rfl, M, nob.refl _ _, ⟨[], by simp⟩, hX⟩, Fram.refl _ _, kp _ ⟨rfl, rfl, rfl, trivial⟩⟩ ?_
  clear hX
  rintro m a' w2 ⟨hmf, v, hI, hF, e, rfl⟩
  refine c_seq (fun K4 hK4 => ?_)
  refine c_seq (fun K5 hK5 => ?_)
  rcases hI with ⟨l, j, n1, g1, T1, VN1, xs1, hIx, M1, hn1, hU1, hX⟩ | ⟨rfl, e1, z, hX, he1, rfl, k1, a1, l1, c1, gg1, hk1, hB⟩
  have hB := M1.blk
  have hjl := M1.il
  obtain ⟨m, rfl⟩ : ∃ k, m = k + 1 := pd_pos hX hE
  rw [pd_catL] at hX
  rcases hcc : p[j]? with _ | c
  rotate_left
  by_cases h124 : c = 124
  rotate_left
  by_cases h41 : c = 41
  · skip
    have hlt := get_lt hcc
    subst h41
    rw [if_pos (.inr (.inr hcc))] at hX
    refine c_pi [(0, false), (1, false), (2, false), (3, false), (4, false), (5, false), (6, false), (7, false), (8, false), (9, false), (10, false), (11, false), (12, false), (13, false), (14, false), (15, false), (16, false), (17, false), (18, false), (19, false), (20, false), (21, false), (22, false), (23, false), (24, false), (25, false), (26, false), (27, false), (28, false), (29, false), (30, false), (31, false), (32, false), (33, false), (34, false), (35, false), (36, false), (37, false), (38, false), (39, false), (40, false)] (SameH _) mixed (by kernel_rfl) rfl (by kernel_rfl) (po_then (po_then (po_then (po_blk (po_then (po_bp)))))) (sameH_now _ _) ?_ -- region 2 syntaxm.go:60
    refine pi_ro rfl (fun w hS => ro_move rfl) ?_
    refine pi_ro rfl (fun w hS => ro_nilCheck rfl) ?_
    refine pi_ro rfl (fun w hS => ro_fieldAddr (k := 4) rfl fo_187_4) ?_
    refine pi_ro rfl (fun w hS => ro_loadB rfl sc_53 (Blk.of_heap hB hS) (rfl)) ?_
    refine pi_ro rfl (fun w hS => ro_cmp (r := true) rfl rfl rfl) ?_
    refine pi_ro rfl (fun w hS => ro_move rfl) ?_
    refine pi_gyes rfl rfl (fun w hS => ro_move rfl) ?_
    refine pi_gyes rfl rfl (fun w hS => ro_nilCheck rfl) ?_
    refine pi_gyes rfl rfl (fun w hS => ro_fieldAddr (k := 1) rfl fo_187_1) ?_
    refine pi_gyes rfl rfl (fun w hS => ro_loadB rfl sc_3 (Blk.of_heap hB hS) (rfl)) ?_
    refine pi_gyes rfl rfl (fun w hS => ro_move rfl) ?_
    refine pi_gyes rfl rfl (fun w hS => ro_nilCheck rfl) ?_
    refine pi_gyes rfl rfl (fun w hS => ro_fieldAddr (k := 0) rfl fo_187_0) ?_
    refine pi_gyes rfl rfl (fun w hS => ro_loadB rfl sc_9 (Blk.of_heap hB hS) (rfl)) ?_
    refine pi_gyes rfl rfl (fun w hS => ro_lenS rfl st_9) ?_
    refine pi_gyes rfl rfl (fun w hS => ro_cmp (r := true) rfl rfl (congrArg some (decide_eq_true (by omega)))) ?_
    refine pi_ro rfl (fun w hS => ro_pick rfl rfl rfl) ?_
    refine pi_ro rfl (fun w hS => ro_move rfl) ?_
    refine pi_gyes rfl rfl (fun w hS => ro_move rfl) ?_
    refine pi_gyes rfl rfl (fun w hS => ro_nilCheck rfl) ?_
    refine pi_gyes rfl rfl (fun w hS => ro_fieldAddr (k := 0) rfl fo_187_0) ?_
    refine pi_gyes rfl rfl (fun w hS => ro_loadB rfl sc_9 (Blk.of_heap hB hS) (rfl)) ?_
    refine pi_gyes rfl rfl (fun w hS => ro_move rfl) ?_
    refine pi_gyes rfl rfl (fun w hS => ro_nilCheck rfl) ?_
    refine pi_gyes rfl rfl (fun w hS => ro_fieldAddr (k := 1) rfl fo_187_1) ?_
    refine pi_gyes rfl rfl (fun w hS => ro_loadB rfl sc_3 (Blk.of_heap hB hS) (rfl)) ?_
    refine pi_gyes rfl rfl (fun w hS => ro_indexS rfl rfl st_9 (rfl) (hcc)) ?_
    refine pi_gyes rfl rfl (fun w hS => ro_cmp (r := true) rfl rfl rfl) ?_
    refine pi_ro rfl (fun w hS => ro_pick rfl rfl rfl) ?_
    refine pi_ro rfl (fun w hS => ro_move rfl) ?_
    refine pi_gyes rfl rfl (fun w hS => ro_move rfl) ?_
    refine pi_gyes rfl rfl (fun w hS => ro_nilCheck rfl) ?_
    refine pi_gyes rfl rfl (fun w hS => ro_fieldAddr (k := 0) rfl fo_187_0) ?_
    refine pi_gyes rfl rfl (fun w hS => ro_loadB rfl sc_9 (Blk.of_heap hB hS) (rfl)) ?_
    refine pi_gyes rfl rfl (fun w hS => ro_move rfl) ?_
    refine pi_gyes rfl rfl (fun w hS => ro_nilCheck rfl) ?_
    refine pi_gyes rfl rfl (fun w hS => ro_fieldAddr (k := 1) rfl fo_187_1) ?_
    refine pi_gyes rfl rfl (fun w hS => ro_loadB rfl sc_3 (Blk.of_heap hB hS) (rfl)) ?_
    refine pi_gyes rfl rfl (fun w hS => ro_indexS rfl rfl st_9 (rfl) (hcc)) ?_
    refine pi_gyes rfl rfl (fun w hS => ro_cmp (r := false) rfl rfl rfl) ?_
    refine pi_ro rfl (fun w hS => ro_pick rfl rfl rfl) ?_
    refine pi_nil (x_then (hK5 _ _ ?_))
    clear hK5 K5
    refine wc_condF rfl ?_
    refine c_exit (x_thenX (x_thenX (x_blkX (x_then (hK3 _ _ ?_)))))
    clear hK4 K4 hK3 K3
    refine c_seq (fun K6 hK6 => ?_)
    refine c_seq (fun K7 hK7 => ?_)
    rcases l with _ | l
    · skip
      cases hIx
      refine c_reg ?_ -- region 7 syntaxm.go:68
      refine wl (ro_move rfl) ?_
      refine wl (ro_cmp (r := true) rfl rfl rfl) ?_
      refine wl_nil (x_then (hK7 _ _ ?_))
      clear hK7 K7
      refine wc_condT rfl ?_
      refine c_reg ?_ -- region 8 syntaxm.go:69
      refine wl (ro_move rfl) ?_
      refine wl (ro_build rfl bld_89_0_1_2) ?_
      rw [nd0]
      refine wl_call rfl en_116 (add116 (r := .emp) (M1.at hB (Fram.drew (one rb) w2 (w2.drawn + 1)) hjl) rfl) ?_
      rintro v9 w9 ⟨hA9, F9⟩
      have hfin : PM w rb p (p.length + 10 - d) T VN X v9 w9 ∧ Fram (mfr rb VN) w w9 := ⟨PM.chain hn1 (hF.thenDrew (k := w2.drawn + 1)) hU1 (hA9.pm M1.tl (by omega) hX.symm), (hF.thenDrew (k := w2.drawn + 1)).mfrM F9 hn1⟩
      refine wl (ro_assign rfl) ?_
      refine wl_nil (x_then (hK6 _ _ ?_))
      clear hK6 K6
      refine forget [(5, _)] ⟨rfl, trivial⟩ (fun e => ?_)
      refine c_seq (fun K8 hK8 => ?_)
      refine c_reg ?_ -- region 9 syntaxm.go:71
      refine wl (ro_move rfl) ?_
      refine wl (ro_assign rfl) ?_
      refine wl_nil (x_then (hK8 _ _ ?_))
      clear hK8 K8
      refine c_ret ?_
      refine bp_ret Tryz.results114 rfl ?_
      exact hfin
    · skip
      obtain ⟨kl, hTl, rfl⟩ := hIx
      refine c_reg ?_ -- region 7 syntaxm.go:68
      refine wl (ro_move rfl) ?_
      refine wl (ro_cmp (r := false) rfl rfl (congrArg some (decide_eq_false (by omega)))) ?_
      refine wl_nil (x_then (hK7 _ _ ?_))
      clear hK7 K7
      refine wc_condF rfl ?_
      refine c_skip (x_then (hK6 _ _ ?_))
      clear hK6 K6
      refine forget [(5, _)] ⟨rfl, trivial⟩ (fun e => ?_)
      refine c_seq (fun K9 hK9 => ?_)
      refine c_reg ?_ -- region 9 syntaxm.go:71
      refine wl (ro_move rfl) ?_
      refine wl (ro_assign rfl) ?_
      refine wl_nil (x_then (hK9 _ _ ?_))
      clear hK9 K9
      refine c_ret ?_
      refine bp_ret Tryz.results114 rfl ?_
      exact ⟨by rw [← hX]; exact ⟨T1, VN1, xs1, kl, rfl, hTl, M1.at hB (Fram.drew (one rb) w2 (w2.drawn + 1)) hjl, hn1, hU1⟩, hF.thenDrew⟩
  · skip
    have hlt := get_lt hcc
    rw [if_neg (by rw [hcc]; simp [h124, h41])] at hX
    have hE4 : ∀ e, repX p m d j n1 g1 = .error e → e.1 ≠ 0 := fun e h => hE e (by rw [← hX, h])
    refine c_pi [(0, false), (1, false), (2, false), (3, false), (4, false), (5, false), (6, false), (7, false), (8, false), (9, false), (10, false), (11, false), (12, false), (13, false), (14, false), (15, false), (16, false), (17, false), (18, false), (19, false), (20, false), (21, false), (22, false), (23, false), (24, false), (25, false), (26, false), (27, false), (28, false), (29, false), (30, false), (31, false), (32, false), (33, false), (34, false), (35, false), (36, false), (37, false), (38, false), (39, false), (40, false)] (SameH _) mixed (by kernel_rfl) rfl (by kernel_rfl) (po_then (po_then (po_then (po_blk (po_then (po_bp)))))) (sameH_now _ _) ?_ -- region 2 syntaxm.go:60
    refine pi_ro rfl (fun w hS => ro_move rfl) ?_
    refine pi_ro rfl (fun w hS => ro_nilCheck rfl) ?_
    refine pi_ro rfl (fun w hS => ro_fieldAddr (k := 4) rfl fo_187_4) ?_
    refine pi_ro rfl (fun w hS => ro_loadB rfl sc_53 (Blk.of_heap hB hS) (rfl)) ?_
    refine pi_ro rfl (fun w hS => ro_cmp (r := true) rfl rfl rfl) ?_
    refine pi_ro rfl (fun w hS => ro_move rfl) ?_
    refine pi_gyes rfl rfl (fun w hS => ro_move rfl) ?_
    refine pi_gyes rfl rfl (fun w hS => ro_nilCheck rfl) ?_
    refine pi_gyes rfl rfl (fun w hS => ro_fieldAddr (k := 1) rfl fo_187_1) ?_
    refine pi_gyes rfl rfl (fun w hS => ro_loadB rfl sc_3 (Blk.of_heap hB hS) (rfl)) ?_
    refine pi_gyes rfl rfl (fun w hS => ro_move rfl) ?_
    refine pi_gyes rfl rfl (fun w hS => ro_nilCheck rfl) ?_
    refine pi_gyes rfl rfl (fun w hS => ro_fieldAddr (k := 0) rfl fo_187_0) ?_
    refine pi_gyes rfl rfl (fun w hS => ro_loadB rfl sc_9 (Blk.of_heap hB hS) (rfl)) ?_
    refine pi_gyes rfl rfl (fun w hS => ro_lenS rfl st_9) ?_
    refine pi_gyes rfl rfl (fun w hS => ro_cmp (r := true) rfl rfl (congrArg some (decide_eq_true (by omega)))) ?_
    refine pi_ro rfl (fun w hS => ro_pick rfl rfl rfl) ?_
    refine pi_ro rfl (fun w hS => ro_move rfl) ?_
    refine pi_gyes rfl rfl (fun w hS => ro_move rfl) ?_
    refine pi_gyes rfl rfl (fun w hS => ro_nilCheck rfl) ?_
    refine pi_gyes rfl rfl (fun w hS => ro_fieldAddr (k := 0) rfl fo_187_0) ?_
    refine pi_gyes rfl rfl (fun w hS => ro_loadB rfl sc_9 (Blk.of_heap hB hS) (rfl)) ?_
    refine pi_gyes rfl rfl (fun w hS => ro_move rfl) ?_
    refine pi_gyes rfl rfl (fun w hS => ro_nilCheck rfl) ?_
    refine pi_gyes rfl rfl (fun w hS => ro_fieldAddr (k := 1) rfl fo_187_1) ?_
    refine pi_gyes rfl rfl (fun w hS => ro_loadB rfl sc_3 (Blk.of_heap hB hS) (rfl)) ?_
    refine pi_gyes rfl rfl (fun w hS => ro_indexS rfl rfl st_9 (rfl) (hcc)) ?_
    refine pi_gyes rfl rfl (fun w hS => ro_cmp (r := true) rfl rfl (congrArg some ((u8ne c 124).trans (decide_eq_true h124)))) ?_
    refine pi_ro rfl (fun w hS => ro_pick rfl rfl rfl) ?_
    refine pi_ro rfl (fun w hS => ro_move rfl) ?_
    refine pi_gyes rfl rfl (fun w hS => ro_move rfl) ?_
    refine pi_gyes rfl rfl (fun w hS => ro_nilCheck rfl) ?_
    refine pi_gyes rfl rfl (fun w hS => ro_fieldAddr (k := 0) rfl fo_187_0) ?_
    refine pi_gyes rfl rfl (fun w hS => ro_loadB rfl sc_9 (Blk.of_heap hB hS) (rfl)) ?_
    refine pi_gyes rfl rfl (fun w hS => ro_move rfl) ?_
    refine pi_gyes rfl rfl (fun w hS => ro_nilCheck rfl) ?_
    refine pi_gyes rfl rfl (fun w hS => ro_fieldAddr (k := 1) rfl fo_187_1) ?_
    refine pi_gyes rfl rfl (fun w hS => ro_loadB rfl sc_3 (Blk.of_heap hB hS) (rfl)) ?_
    refine pi_gyes rfl rfl (fun w hS => ro_indexS rfl rfl st_9 (rfl) (hcc)) ?_
    refine pi_gyes rfl rfl (fun w hS => ro_cmp (r := true) rfl rfl (congrArg some ((u8ne c 41).trans (decide_eq_true h41)))) ?_
    refine pi_ro rfl (fun w hS => ro_pick rfl rfl rfl) ?_
    refine pi_nil (x_then (hK5 _ _ ?_))
    clear hK5 K5
    refine wc_condT rfl ?_
    refine c_skip (x_then (hK4 _ _ ?_))
    clear hK4 K4
    refine c_block ?_
    refine forget [(0, _), (1, _), (5, _), (13, _), (14, _), (15, _), (16, _), (17, _), (18, _), (19, _), (20, _), (21, _), (22, _), (25, _), (26, _), (27, _), (28, _), (29, _), (30, _), (31, _), (32, _), (33, _), (34, _), (37, _), (38, _), (39, _), (40, _), (41, _), (42, _), (43, _), (44, _), (45, _), (46, _)] ⟨rfl, rfl, rfl, rfl, rfl, rfl, rfl, rfl, rfl, rfl, rfl, rfl, rfl, rfl, rfl, rfl, rfl, rfl, rfl, rfl, rfl, rfl, rfl, rfl, rfl, rfl, rfl, rfl, rfl, rfl, rfl, rfl, rfl, trivial⟩ (fun e => ?_)
    refine c_seq (fun K10 hK10 => ?_)
    refine c_reg ?_ -- region 3 syntaxm.go:61
    refine wl (ro_move rfl) ?_
    refine wl (ro_move rfl) ?_
    refine wl_call rfl en_133 (hA m (by omega) _ rb d j n1 g1 T1 VN1 xs1 _ c (M1.at hB (Fram.drew (one rb) w2 (w2.drawn + 1)) hjl) hcc hd rfl hE4) ?_
    rintro v4 w4 ⟨hP4, F4⟩
    have hF3 := hF.thenDrew (k := w2.drawn + 1)
    replace hF := hF3.mfrM F4 hn1
    clear hB
    refine wl (ro_assign rfl) ?_
    refine wl_nil (x_then (hK10 _ _ ?_))
    clear hK10 K10
    refine forget [(0, _), (1, _), (5, _), (6, _), (13, _), (14, _), (15, _), (16, _), (17, _), (18, _), (19, _), (20, _), (21, _), (22, _), (25, _), (26, _), (27, _), (28, _), (29, _), (30, _), (31, _), (32, _), (33, _), (34, _), (37, _), (38, _), (39, _), (40, _), (41, _), (42, _), (43, _), (44, _), (45, _), (46, _)] ⟨rfl, rfl, rfl, rfl, rfl, rfl, rfl, rfl, rfl, rfl, rfl, rfl, rfl, rfl, rfl, rfl, rfl, rfl, rfl, rfl, rfl, rfl, rfl, rfl, rfl, rfl, rfl, rfl, rfl, rfl, rfl, rfl, rfl, rfl, trivial⟩ (fun e => ?_)
    refine c_seq (fun K11 hK11 => ?_)
    rcases hR4 : repX p m d j n1 g1 with e4 | ⟨x4, j4, n4, g4⟩
    rcases l with _ | l
    rotate_left 2
    rcases l with _ | l
    · skip
      rw [hR4] at hP4 hX
      obtain ⟨T4, VN4, xs4, k4, rfl, hTk, M4, hn4, hU4⟩ := hP4
      cases hIx
      refine c_reg ?_ -- region 4 syntaxm.go:62
      refine wl (ro_move rfl) ?_
      refine wl (ro_cmp (r := true) rfl rfl rfl) ?_
      refine wl_nil (x_then (hK11 _ _ ?_))
      clear hK11 K11
      refine wc_condT rfl ?_
      refine c_reg ?_ -- region 5 syntaxm.go:63
      refine wl (ro_move rfl) ?_
      refine wl (ro_assign rfl) ?_
      refine wl_nil (x_blk (x_then ?_))
      exact ⟨m, by omega, by omega, _, .inl ⟨some x4, j4, n4, g4, T4, VN4, xs4, ⟨k4, hTk, rfl⟩, M4, hn1.trans hn4 hF3, by (obtain ⟨U1, rfl⟩ := hU1; obtain ⟨U4, rfl⟩ := hU4; exact ⟨U1 ++ U4, by simp⟩), hX⟩, hF, kp _ ⟨rfl, rfl, rfl, trivial⟩⟩
    · skip
      rw [hR4] at hP4 hX
      obtain ⟨T4, VN4, xs4, k4, rfl, hTk, M4, hn4, U4, rfl⟩ := hP4
      obtain ⟨kl, hTl, rfl⟩ := hIx
      have hB := M4.blk
      have hl1 := ND.u (cs := []) hTl
      have hTl4 : (T1 ++ U4)[kl]? = some l := by rw [List.getElem?_append_left hl1]; exact hTl
      have htl := M4.tl
      have hlk := ND.u (cs := []) hTk
      have hll := ND.u (cs := []) hTl4
      have hj4 := M4.il
      refine c_reg ?_ -- region 4 syntaxm.go:62
      refine wl (ro_move rfl) ?_
      refine wl (ro_cmp (r := false) rfl rfl (congrArg some (decide_eq_false (by omega)))) ?_
      refine wl_nil (x_then (hK11 _ _ ?_))
      clear hK11 K11
      refine wc_condF rfl ?_
      refine c_reg ?_ -- region 6 syntaxm.go:65
      refine wl (ro_move rfl) ?_
      refine wl (ro_move rfl) ?_
      refine wl (ro_move rfl) ?_
      refine wl (ro_build rfl bld_89_0_1_2) ?_
      rw [nd0]
      refine wl_call rfl en_116 (add116 (r := .cat l x4) M4 ⟨kl, k4, by omega, by omega, hTl4, hTk, rfl⟩) ?_
      rintro v9 w9 ⟨hA9, F9⟩
      obtain ⟨m9, hm9, hI9⟩ := hA9.ci (w := w) (T := T) (B := p.length + 10 - d) (d := d) (X := X) (m := m) htl (hn1.trans hn4 hF3) hF (by obtain ⟨U1, rfl⟩ := hU1; exact ⟨U1 ++ U4, by simp⟩) (by omega) (fun h => by simp only [if_pos h] at hX; exact hX.symm) (fun h => by simp only [if_neg (show ¬ 24 ≤ n4 by omega)] at hX; exact hX)
      replace hF := hF.mfrM F9 (hn1.trans hn4 hF3)
      refine wl (ro_assign rfl) ?_
      refine wl_nil (x_blk (x_then ?_))
      exact ⟨m9, by omega, by omega, _, hI9, hF, kp _ ⟨rfl, rfl, rfl, trivial⟩⟩
    · skip
      rw [hR4] at hP4 hX
      obtain ⟨⟨z4, rfl⟩, hM4⟩ := hP4
      cases hIx
      refine c_reg ?_ -- region 4 syntaxm.go:62
      refine wl (ro_move rfl) ?_
      refine wl (ro_cmp (r := true) rfl rfl rfl) ?_
      refine wl_nil (x_then (hK11 _ _ ?_))
      clear hK11 K11
      refine wc_condT rfl ?_
      refine c_reg ?_ -- region 5 syntaxm.go:63
      refine wl (ro_move rfl) ?_
      refine wl (ro_assign rfl) ?_
      refine wl_nil (x_blk (x_then ?_))
      exact ⟨0, by omega, by omega, _, .inr ⟨rfl, e4, z4, hX.symm, hE4 e4 hR4, rfl, hM4⟩, hF, kp _ ⟨rfl, rfl, rfl, trivial⟩⟩
    · skip
      rw [hR4] at hP4 hX
      obtain ⟨⟨z4, rfl⟩, k4, a4, l4, c4, gg4, hk4, hB⟩ := hP4
      obtain ⟨kl, hTl, rfl⟩ := hIx
      refine c_reg ?_ -- region 4 syntaxm.go:62
      refine wl (ro_move rfl) ?_
      refine wl (ro_cmp (r := false) rfl rfl (congrArg some (decide_eq_false (by omega)))) ?_
      refine wl_nil (x_then (hK11 _ _ ?_))
      clear hK11 K11
      refine wc_condF rfl ?_
      refine c_reg ?_ -- region 6 syntaxm.go:65
      refine wl (ro_move rfl) ?_
      refine wl (ro_move rfl) ?_
      refine wl (ro_move rfl) ?_
      refine wl (ro_build rfl bld_89_0_1_2) ?_
      rw [nd0]
      refine wl_call rfl en_116 (add116e (e := e4) (B := p.length + 10 - d) ⟨k4, a4, l4, c4, gg4, by omega, hB⟩ (hE4 e4 hR4)) ?_
      rintro _ w9 ⟨rfl, hE9, F9⟩
      replace hF := hF.mfrN F9
      refine wl (ro_assign rfl) ?_
      refine wl_nil (x_blk (x_then ?_))
      exact ⟨0, by omega, by omega, _, .inr ⟨rfl, e4, -1, hX.symm, hE4 e4 hR4, rfl, hE9⟩, hF, kp _ ⟨rfl, rfl, rfl, trivial⟩⟩
  · skip
    refine c_pi [(0, false), (1, false), (2, false), (3, false), (4, false), (5, false), (6, false), (7, false), (8, false), (9, false), (10, false), (11, false), (12, false), (13, false), (14, false), (15, false), (16, false), (17, false), (18, false), (19, false), (20, false), (21, false), (22, false), (23, false), (24, false), (25, false), (26, false), (27, false), (28, false), (29, false), (30, false), (31, false), (32, false), (33, false), (34, false), (35, false), (36, false), (37, false), (38, false), (39, false), (40, false)] (SameH _) mixed (by kernel_rfl) rfl (by kernel_rfl) (po_then (po_then (po_then (po_blk (po_then (po_bp)))))) (sameH_now _ _) ?_ -- region 2 syntaxm.go:60
    refine pi_ro rfl (fun w hS => ro_move rfl) ?_
    refine pi_ro rfl (fun w hS => ro_nilCheck rfl) ?_
    refine pi_ro rfl (fun w hS => ro_fieldAddr (k := 4) rfl fo_187_4) ?_
    refine pi_ro rfl (fun w hS => ro_loadB rfl sc_53 (Blk.of_heap hB hS) (rfl)) ?_
    refine pi_ro rfl (fun w hS => ro_cmp (r := false) rfl rfl (congrArg some ((beqc e1.1 0).trans (decide_eq_false he1)))) ?_
    refine pi_ro rfl (fun w hS => ro_move rfl) ?_
    refine pi_gno rfl rfl ?_
    refine pi_gno rfl rfl ?_
    refine pi_gno rfl rfl ?_
    refine pi_gno rfl rfl ?_
    refine pi_gno rfl rfl ?_
    refine pi_gno rfl rfl ?_
    refine pi_gno rfl rfl ?_
    refine pi_gno rfl rfl ?_
    refine pi_gno rfl rfl ?_
    refine pi_gno rfl rfl ?_
    refine pi_ro rfl (fun w hS => ro_pick rfl rfl rfl) ?_
    refine pi_ro rfl (fun w hS => ro_move rfl) ?_
    refine pi_gno rfl rfl ?_
    refine pi_gno rfl rfl ?_
    refine pi_gno rfl rfl ?_
    refine pi_gno rfl rfl ?_
    refine pi_gno rfl rfl ?_
    refine pi_gno rfl rfl ?_
    refine pi_gno rfl rfl ?_
    refine pi_gno rfl rfl ?_
    refine pi_gno rfl rfl ?_
    refine pi_gno rfl rfl ?_
    refine pi_ro rfl (fun w hS => ro_pick rfl rfl rfl) ?_
    refine pi_ro rfl (fun w hS => ro_move rfl) ?_
    refine pi_gno rfl rfl ?_
    refine pi_gno rfl rfl ?_
    refine pi_gno rfl rfl ?_
    refine pi_gno rfl rfl ?_
    refine pi_gno rfl rfl ?_
    refine pi_gno rfl rfl ?_
    refine pi_gno rfl rfl ?_
    refine pi_gno rfl rfl ?_
    refine pi_gno rfl rfl ?_
    refine pi_gno rfl rfl ?_
    refine pi_ro rfl (fun w hS => ro_pick rfl rfl rfl) ?_
    refine pi_nil (x_then (hK5 _ _ ?_))
    clear hK5 K5
    refine wc_condF rfl ?_
    refine c_exit (x_thenX (x_thenX (x_blkX (x_then (hK3 _ _ ?_)))))
    clear hK4 K4 hK3 K3
    refine c_seq (fun K12 hK12 => ?_)
    refine c_seq (fun K13 hK13 => ?_)
    by_cases hz : z < 0
    · skip
      refine c_reg ?_ -- region 7 syntaxm.go:68
      refine wl (ro_move rfl) ?_
      refine wl (ro_cmp (r := true) rfl rfl (congrArg some (decide_eq_true hz))) ?_
      refine wl_nil (x_then (hK13 _ _ ?_))
      clear hK13 K13
      refine wc_condT rfl ?_
      refine c_reg ?_ -- region 8 syntaxm.go:69
      refine wl (ro_move rfl) ?_
      refine wl (ro_build rfl bld_89_0_1_2) ?_
      rw [nd0]
      refine wl_call rfl en_116 (add116e (e := e1) (B := p.length + 10 - d) ⟨k1, a1, l1, c1, gg1, by omega, hB⟩ he1) ?_
      rintro _ w9 ⟨rfl, hE9, F9⟩
      have hfin : PM w rb p (p.length + 10 - d) T VN X (icv (-1)) w9 ∧ Fram (mfr rb VN) w w9 := ⟨PM.er hX ⟨_, rfl⟩ hE9, (hF.thenDrew (k := w2.drawn + 1)).mfrN F9⟩
      refine wl (ro_assign rfl) ?_
      refine wl_nil (x_then (hK12 _ _ ?_))
      clear hK12 K12
      refine forget [(5, _)] ⟨rfl, trivial⟩ (fun e => ?_)
      refine c_seq (fun K14 hK14 => ?_)
      refine c_reg ?_ -- region 9 syntaxm.go:71
      refine wl (ro_move rfl) ?_
      refine wl (ro_assign rfl) ?_
      refine wl_nil (x_then (hK14 _ _ ?_))
      clear hK14 K14
      refine c_ret ?_
      refine bp_ret Tryz.results114 rfl ?_
      exact hfin
    · skip
      refine c_reg ?_ -- region 7 syntaxm.go:68
      refine wl (ro_move rfl) ?_
      refine wl (ro_cmp (r := false) rfl rfl (congrArg some (decide_eq_false hz))) ?_
      refine wl_nil (x_then (hK13 _ _ ?_))
      clear hK13 K13
      refine wc_condF rfl ?_
      refine c_skip (x_then (hK12 _ _ ?_))
      clear hK12 K12
      refine forget [(5, _)] ⟨rfl, trivial⟩ (fun e => ?_)
      refine c_seq (fun K15 hK15 => ?_)
      refine c_reg ?_ -- region 9 syntaxm.go:71
      refine wl (ro_move rfl) ?_
      refine wl (ro_assign rfl) ?_
      refine wl_nil (x_then (hK15 _ _ ?_))
      clear hK15 K15
      refine c_ret ?_
      refine bp_ret Tryz.results114 rfl ?_
      exact ⟨PM.er hX ⟨z, rfl⟩ ⟨k1, a1, l1, c1, gg1, by omega, hB⟩, hF.thenDrew⟩
  · skip
    have hge : p.length ≤ j := List.getElem?_eq_none_iff.1 hcc
    rw [if_pos (.inl hcc)] at hX
    refine c_pi [(0, false), (1, false), (2, false), (3, false), (4, false), (5, false), (6, false), (7, false), (8, false), (9, false), (10, false), (11, false), (12, false), (13, false), (14, false), (15, false), (16, false), (17, false), (18, false), (19, false), (20, false), (21, false), (22, false), (23, false), (24, false), (25, false), (26, false), (27, false), (28, false), (29, false), (30, false), (31, false), (32, false), (33, false), (34, false), (35, false), (36, false), (37, false), (38, false), (39, false), (40, false)] (SameH _) mixed (by kernel_rfl) rfl (by kernel_rfl) (po_then (po_then (po_then (po_blk (po_then (po_bp)))))) (sameH_now _ _) ?_ -- region 2 syntaxm.go:60
    refine pi_ro rfl (fun w hS => ro_move rfl) ?_
    refine pi_ro rfl (fun w hS => ro_nilCheck rfl) ?_
    refine pi_ro rfl (fun w hS => ro_fieldAddr (k := 4) rfl fo_187_4) ?_
    refine pi_ro rfl (fun w hS => ro_loadB rfl sc_53 (Blk.of_heap hB hS) (rfl)) ?_
    refine pi_ro rfl (fun w hS => ro_cmp (r := true) rfl rfl rfl) ?_
    refine pi_ro rfl (fun w hS => ro_move rfl) ?_
    refine pi_gyes rfl rfl (fun w hS => ro_move rfl) ?_
    refine pi_gyes rfl rfl (fun w hS => ro_nilCheck rfl) ?_
    refine pi_gyes rfl rfl (fun w hS => ro_fieldAddr (k := 1) rfl fo_187_1) ?_
    refine pi_gyes rfl rfl (fun w hS => ro_loadB rfl sc_3 (Blk.of_heap hB hS) (rfl)) ?_
    refine pi_gyes rfl rfl (fun w hS => ro_move rfl) ?_
    refine pi_gyes rfl rfl (fun w hS => ro_nilCheck rfl) ?_
    refine pi_gyes rfl rfl (fun w hS => ro_fieldAddr (k := 0) rfl fo_187_0) ?_
    refine pi_gyes rfl rfl (fun w hS => ro_loadB rfl sc_9 (Blk.of_heap hB hS) (rfl)) ?_
    refine pi_gyes rfl rfl (fun w hS => ro_lenS rfl st_9) ?_
    refine pi_gyes rfl rfl (fun w hS => ro_cmp (r := false) rfl rfl (congrArg some (decide_eq_false (by omega)))) ?_
    refine pi_ro rfl (fun w hS => ro_pick rfl rfl rfl) ?_
    refine pi_ro rfl (fun w hS => ro_move rfl) ?_
    refine pi_gno rfl rfl ?_
    refine pi_gno rfl rfl ?_
    refine pi_gno rfl rfl ?_
    refine pi_gno rfl rfl ?_
    refine pi_gno rfl rfl ?_
    refine pi_gno rfl rfl ?_
    refine pi_gno rfl rfl ?_
    refine pi_gno rfl rfl ?_
    refine pi_gno rfl rfl ?_
    refine pi_gno rfl rfl ?_
    refine pi_ro rfl (fun w hS => ro_pick rfl rfl rfl) ?_
    refine pi_ro rfl (fun w hS => ro_move rfl) ?_
    refine pi_gno rfl rfl ?_
    refine pi_gno rfl rfl ?_
    refine pi_gno rfl rfl ?_
    refine pi_gno rfl rfl ?_
    refine pi_gno rfl rfl ?_
    refine pi_gno rfl rfl ?_
    refine pi_gno rfl rfl ?_
    refine pi_gno rfl rfl ?_
    refine pi_gno rfl rfl ?_
    refine pi_gno rfl rfl ?_
    refine pi_ro rfl (fun w hS => ro_pick rfl rfl rfl) ?_
    refine pi_nil (x_then (hK5 _ _ ?_))
    clear hK5 K5
    refine wc_condF rfl ?_
    refine c_exit (x_thenX (x_thenX (x_blkX (x_then (hK3 _ _ ?_)))))
    clear hK4 K4 hK3 K3
    refine c_seq (fun K16 hK16 => ?_)
    refine c_seq (fun K17 hK17 => ?_)
    rcases l with _ | l
    · skip
      cases hIx
      refine c_reg ?_ -- region 7 syntaxm.go:68
      refine wl (ro_move rfl) ?_
      refine wl (ro_cmp (r := true) rfl rfl rfl) ?_
      refine wl_nil (x_then (hK17 _ _ ?_))
      clear hK17 K17
      refine wc_condT rfl ?_
      refine c_reg ?_ -- region 8 syntaxm.go:69
      refine wl (ro_move rfl) ?_
      refine wl (ro_build rfl bld_89_0_1_2) ?_
      rw [nd0]
      refine wl_call rfl en_116 (add116 (r := .emp) (M1.at hB (Fram.drew (one rb) w2 (w2.drawn + 1)) hjl) rfl) ?_
      rintro v9 w9 ⟨hA9, F9⟩
      have hfin : PM w rb p (p.length + 10 - d) T VN X v9 w9 ∧ Fram (mfr rb VN) w w9 := ⟨PM.chain hn1 (hF.thenDrew (k := w2.drawn + 1)) hU1 (hA9.pm M1.tl (by omega) hX.symm), (hF.thenDrew (k := w2.drawn + 1)).mfrM F9 hn1⟩
      refine wl (ro_assign rfl) ?_
      refine wl_nil (x_then (hK16 _ _ ?_))
      clear hK16 K16
      refine forget [(5, _)] ⟨rfl, trivial⟩ (fun e => ?_)
      refine c_seq (fun K18 hK18 => ?_)
      refine c_reg ?_ -- region 9 syntaxm.go:71
      refine wl (ro_move rfl) ?_
      refine wl (ro_assign rfl) ?_
      refine wl_nil (x_then (hK18 _ _ ?_))
      clear hK18 K18
      refine c_ret ?_
      refine bp_ret Tryz.results114 rfl ?_
      exact hfin
    · skip
      obtain ⟨kl, hTl, rfl⟩ := hIx
      refine c_reg ?_ -- region 7 syntaxm.go:68
      refine wl (ro_move rfl) ?_
      refine wl (ro_cmp (r := false) rfl rfl (congrArg some (decide_eq_false (by omega)))) ?_
      refine wl_nil (x_then (hK17 _ _ ?_))
      clear hK17 K17
      refine wc_condF rfl ?_
      refine c_skip (x_then (hK16 _ _ ?_))
      clear hK16 K16
      refine forget [(5, _)] ⟨rfl, trivial⟩ (fun e => ?_)
      refine c_seq (fun K19 hK19 => ?_)
      refine c_reg ?_ -- region 9 syntaxm.go:71
      refine wl (ro_move rfl) ?_
      refine wl (ro_assign rfl) ?_
      refine wl_nil (x_then (hK19 _ _ ?_))
      clear hK19 K19
      refine c_ret ?_
      refine bp_ret Tryz.results114 rfl ?_
      exact ⟨by rw [← hX]; exact ⟨T1, VN1, xs1, kl, rfl, hTl, M1.at hB (Fram.drew (one rb) w2 (w2.drawn + 1)) hjl, hn1, hU1⟩, hF.thenDrew⟩
  · skip
    have hlt := get_lt hcc
    subst h124
    rw [if_pos (.inr (.inl hcc))] at hX
    refine c_pi [(0, false), (1, false), (2, false), (3, false), (4, false), (5, false), (6, false), (7, false), (8, false), (9, false), (10, false), (11, false), (12, false), (13, false), (14, false), (15, false), (16, false), (17, false), (18, false), (19, false), (20, false), (21, false), (22, false), (23, false), (24, false), (25, false), (26, false), (27, false), (28, false), (29, false), (30, false), (31, false), (32, false), (33, false), (34, false), (35, false), (36, false), (37, false), (38, false), (39, false), (40, false)] (SameH _) mixed (by kernel_rfl) rfl (by kernel_rfl) (po_then (po_then (po_then (po_blk (po_then (po_bp)))))) (sameH_now _ _) ?_ -- region 2 syntaxm.go:60
    refine pi_ro rfl (fun w hS => ro_move rfl) ?_
    refine pi_ro rfl (fun w hS => ro_nilCheck rfl) ?_
    refine pi_ro rfl (fun w hS => ro_fieldAddr (k := 4) rfl fo_187_4) ?_
    refine pi_ro rfl (fun w hS => ro_loadB rfl sc_53 (Blk.of_heap hB hS) (rfl)) ?_
    refine pi_ro rfl (fun w hS => ro_cmp (r := true) rfl rfl rfl) ?_
    refine pi_ro rfl (fun w hS => ro_move rfl) ?_
    refine pi_gyes rfl rfl (fun w hS => ro_move rfl) ?_
    refine pi_gyes rfl rfl (fun w hS => ro_nilCheck rfl) ?_
    refine pi_gyes rfl rfl (fun w hS => ro_fieldAddr (k := 1) rfl fo_187_1) ?_
    refine pi_gyes rfl rfl (fun w hS => ro_loadB rfl sc_3 (Blk.of_heap hB hS) (rfl)) ?_
    refine pi_gyes rfl rfl (fun w hS => ro_move rfl) ?_
    refine pi_gyes rfl rfl (fun w hS => ro_nilCheck rfl) ?_
    refine pi_gyes rfl rfl (fun w hS => ro_fieldAddr (k := 0) rfl fo_187_0) ?_
    refine pi_gyes rfl rfl (fun w hS => ro_loadB rfl sc_9 (Blk.of_heap hB hS) (rfl)) ?_
    refine pi_gyes rfl rfl (fun w hS => ro_lenS rfl st_9) ?_
    refine pi_gyes rfl rfl (fun w hS => ro_cmp (r := true) rfl rfl (congrArg some (decide_eq_true (by omega)))) ?_
    refine pi_ro rfl (fun w hS => ro_pick rfl rfl rfl) ?_
    refine pi_ro rfl (fun w hS => ro_move rfl) ?_
    refine pi_gyes rfl rfl (fun w hS => ro_move rfl) ?_
    refine pi_gyes rfl rfl (fun w hS => ro_nilCheck rfl) ?_
    refine pi_gyes rfl rfl (fun w hS => ro_fieldAddr (k := 0) rfl fo_187_0) ?_
    refine pi_gyes rfl rfl (fun w hS => ro_loadB rfl sc_9 (Blk.of_heap hB hS) (rfl)) ?_
    refine pi_gyes rfl rfl (fun w hS => ro_move rfl) ?_
    refine pi_gyes rfl rfl (fun w hS => ro_nilCheck rfl) ?_
    refine pi_gyes rfl rfl (fun w hS => ro_fieldAddr (k := 1) rfl fo_187_1) ?_
    refine pi_gyes rfl rfl (fun w hS => ro_loadB rfl sc_3 (Blk.of_heap hB hS) (rfl)) ?_
    refine pi_gyes rfl rfl (fun w hS => ro_indexS rfl rfl st_9 (rfl) (hcc)) ?_
    refine pi_gyes rfl rfl (fun w hS => ro_cmp (r := false) rfl rfl rfl) ?_
    refine pi_ro rfl (fun w hS => ro_pick rfl rfl rfl) ?_
    refine pi_ro rfl (fun w hS => ro_move rfl) ?_
    refine pi_gno rfl rfl ?_
    refine pi_gno rfl rfl ?_
    refine pi_gno rfl rfl ?_
    refine pi_gno rfl rfl ?_
    refine pi_gno rfl rfl ?_
    refine pi_gno rfl rfl ?_
    refine pi_gno rfl rfl ?_
    refine pi_gno rfl rfl ?_
    refine pi_gno rfl rfl ?_
    refine pi_gno rfl rfl ?_
    refine pi_ro rfl (fun w hS => ro_pick rfl rfl rfl) ?_
    refine pi_nil (x_then (hK5 _ _ ?_))
    clear hK5 K5
    refine wc_condF rfl ?_
    refine c_exit (x_thenX (x_thenX (x_blkX (x_then (hK3 _ _ ?_)))))
    clear hK4 K4 hK3 K3
    refine c_seq (fun K20 hK20 => ?_)
    refine c_seq (fun K21 hK21 => ?_)
    rcases l with _ | l
    · skip
      cases hIx
      refine c_reg ?_ -- region 7 syntaxm.go:68
      refine wl (ro_move rfl) ?_
      refine wl (ro_cmp (r := true) rfl rfl rfl) ?_
      refine wl_nil (x_then (hK21 _ _ ?_))
      clear hK21 K21
      refine wc_condT rfl ?_
      refine c_reg ?_ -- region 8 syntaxm.go:69
      refine wl (ro_move rfl) ?_
      refine wl (ro_build rfl bld_89_0_1_2) ?_
      rw [nd0]
      refine wl_call rfl en_116 (add116 (r := .emp) (M1.at hB (Fram.drew (one rb) w2 (w2.drawn + 1)) hjl) rfl) ?_
      rintro v9 w9 ⟨hA9, F9⟩
      have hfin : PM w rb p (p.length + 10 - d) T VN X v9 w9 ∧ Fram (mfr rb VN) w w9 := ⟨PM.chain hn1 (hF.thenDrew (k := w2.drawn + 1)) hU1 (hA9.pm M1.tl (by omega) hX.symm), (hF.thenDrew (k := w2.drawn + 1)).mfrM F9 hn1⟩
      refine wl (ro_assign rfl) ?_
      refine wl_nil (x_then (hK20 _ _ ?_))
      clear hK20 K20
      refine forget [(5, _)] ⟨rfl, trivial⟩ (fun e => ?_)
      refine c_seq (fun K22 hK22 => ?_)
      refine c_reg ?_ -- region 9 syntaxm.go:71
      refine wl (ro_move rfl) ?_
      refine wl (ro_assign rfl) ?_
      refine wl_nil (x_then (hK22 _ _ ?_))
      clear hK22 K22
      refine c_ret ?_
      refine bp_ret Tryz.results114 rfl ?_
      exact hfin
    · skip
      obtain ⟨kl, hTl, rfl⟩ := hIx
      refine c_reg ?_ -- region 7 syntaxm.go:68
      refine wl (ro_move rfl) ?_
      refine wl (ro_cmp (r := false) rfl rfl (congrArg some (decide_eq_false (by omega)))) ?_
      refine wl_nil (x_then (hK21 _ _ ?_))
      clear hK21 K21
      refine wc_condF rfl ?_
      refine c_skip (x_then (hK20 _ _ ?_))
      clear hK20 K20
      refine forget [(5, _)] ⟨rfl, trivial⟩ (fun e => ?_)
      refine c_seq (fun K23 hK23 => ?_)
      refine c_reg ?_ -- region 9 syntaxm.go:71
      refine wl (ro_move rfl) ?_
      refine wl (ro_assign rfl) ?_
      refine wl_nil (x_then (hK23 _ _ ?_))
      clear hK23 K23
      refine c_ret ?_
      refine bp_ret Tryz.results114 rfl ?_
      exact ⟨by rw [← hX]; exact ⟨T1, VN1, xs1, kl, rfl, hTl, M1.at hB (Fram.drew (one rb) w2 (w2.drawn + 1)) hjl, hn1, hU1⟩, hF.thenDrew⟩

end Go.Proofs.Qxb6500567aGreat
