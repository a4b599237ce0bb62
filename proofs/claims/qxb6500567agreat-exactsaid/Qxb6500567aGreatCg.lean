import Derived.Test.Qxb6500567aGreatCf
/- The model's parser: what a descent answers; groups, atoms. -/
namespace Go.Proofs.Qxb6500567aGreat
set_option linter.unusedVariables false
set_option linter.unusedSimpArgs false

theorem pd_alt {p : List UInt8} {f d i n g : Nat} : pd p (f + 1) (.alt d) i n g = match pd p f (.catL d none) i n g with
    | .error e => .error e
    | .ok (l, i, n, g) => pd p f (.altL d l) i n g := rfl
theorem pd_altL {p : List UInt8} {f d i n g : Nat} {l : RE} : pd p (f + 1) (.altL d l) i n g = if p[i]? = some 124 then
      match pd p f (.catL d none) (i + 1) n g with
      | .error e => .error e
      | .ok (r, i, n, g) => if 24 ≤ n then .error (8, i) else pd p f (.altL d (.alt l r)) i (n + 1) g
    else .ok (l, i, n, g) := rfl
theorem pd_atom {p : List UInt8} {f d i n g : Nat} : pd p (f + 1) (.atom d) i n g = match p[i]? with
    | none => .error (0, 0)
    | some b => if b = 40 then
        if 5 ≤ d then .error (6, i) else
        if p[i + 1]? = some 63 ∧ p[i + 2]? = some 58 then
          match pd p f (.alt (d + 1)) (i + 3) n g with
          | .error e => .error e
          | .ok (x, j, n, g) => if p[j]? = some 41 then .ok (x, j + 1, n, g) else .error (1, i)
        else if 3 ≤ g then .error (7, i) else
          match pd p f (.alt (d + 1)) (i + 1) n (g + 1) with
          | .error e => .error e
          | .ok (x, j, n, g') => if p[j]? = some 41 then (if 24 ≤ n then .error (8, j + 1) else .ok (.grp x (g + 1), j + 1, n + 1, g')) else .error (1, i)
      else if isSign b then .error (3, i)
      else match leafA p i b with
        | .error e => .error e
        | .ok (x, j) => if 24 ≤ n then .error (8, j) else .ok (x, j, n + 1, g) := rfl

/-- What a descent answers. -/
def PM (w : World) (rb : Nat) (p : List UInt8) (B : Nat) (T : List RE) (VN : Value) (X : PRes) (v : Value) (w' : World) : Prop := match X with
  | .error e => (∃ z : Int, v = icv z) ∧ ME w' rb p e B
  | .ok (r, j, n', g') => ∃ (T' : List RE) (VN' : Value) (xs' : List Value) (k : Nat), v = i64c k ∧ T'[k]? = some r ∧ MV w' rb p j n' g' T' VN' xs' ∧ nob VN VN' w ∧ (∃ U, T' = T ++ U)

theorem PM.er {w w' : World} {rb : Nat} {p : List UInt8} {B : Nat} {T : List RE} {VN v : Value} {X : PRes} {e : Er} (hX : X = .error e) (hv : ∃ z : Int, v = icv z) (h : ME w' rb p e B) : PM w rb p B T VN X v w' := by subst hX; exact ⟨hv, h⟩

theorem PM.chain {w w1 w' : World} {rb : Nat} {p : List UInt8} {B : Nat} {T T1 : List RE} {VN VN1 v : Value} {X : PRes} {F : Nat → Prop} (hn : nob VN VN1 w) (hf : Fram F w w1) (hT : ∃ U, T1 = T ++ U) (h : PM w1 rb p B T1 VN1 X v w') : PM w rb p B T VN X v w' := by
  cases X with
  | error e => exact h
  | ok r =>
    obtain ⟨T', VN', xs', k, h1, h2, h3, h4, U, h5⟩ := h
    obtain ⟨U1, rfl⟩ := hT
    exact ⟨T', VN', xs', k, h1, h2, h3, hn.trans h4 hf, U1 ++ U, by rw [h5, List.append_assoc]⟩

theorem AddM.pm {w w' : World} {rb : Nat} {p : List UInt8} {i n g B : Nat} {T : List RE} {VN v : Value} {r : RE} {X : PRes} (h : AddM w rb p i n g T VN r v w') (hl : T.length = n) (hB : i ≤ B) (hX : X = if 24 ≤ n then .error (8, i) else .ok (r, i, n + 1, g)) : PM w rb p B T VN X v w' := by
  subst hX
  rcases h with ⟨h1, h2, VN', xs', h3, h4⟩ | ⟨h1, h2, h3⟩
  · rw [if_neg (by omega)]
    exact ⟨T ++ [r], VN', xs', n, h2, by rw [← hl]; simp, h3, h4, [r], rfl⟩
  · rw [if_pos h1]
    exact ⟨⟨-1, h2⟩, h3.up hB⟩

theorem ND.u {T : List RE} {r : RE} {cs : List Value} {k : Nat} (h : T[k]? = some r) : k < T.length := (List.getElem?_eq_some_iff.1 h).1

/-- What alt does on f steps of the descent. -/
def AltC (p : List UInt8) (f : Nat) : Prop := ∀ (w : World) (rb d i n g : Nat) (T : List RE) (VN : Value) (xs : List Value) (X : PRes), MV w rb p i n g T VN xs → d ≤ 5 → pd p f (.alt d) i n g = X → (∀ e, X = .error e → e.1 ≠ 0) →
  Ret Tryz.prog 89 [ptr rb, i64c d] w (fun v w' => PM w rb p (p.length + 10 - d) T VN X v w' ∧ Fram (mfr rb VN) w w')

/-- Behind the sign of the group. -/
def grpX (p : List UInt8) (f d i : Nat) (i' n g' c : Nat) : PRes := match pd p f (.alt (d + 1)) i' n g' with
  | .error e => .error e
  | .ok (x, j, n, g'') => if p[j]? = some 41 then (if c = 0 then .ok (x, j + 1, n, g'') else if 24 ≤ n then .error (8, j + 1) else .ok (.grp x c, j + 1, n + 1, g'')) else .error (1, i)

theorem MV.setG {w w' : World} {rb : Nat} {p : List UInt8} {i n g i' g' : Nat} {T : List RE} {VN : Value} {xs : List Value} (h : MV w rb p i n g T VN xs) (hB : Blk w'.heap rb (rc p i' VN g' 0 0) 187) (hf : Fram (one rb) w w') (hi : i' ≤ p.length) (hg : g' ≤ 3) : MV w' rb p i' n g' T VN xs :=
  ⟨hB, h.own.fram hf (fun b hb he => h.own.neblk h.blk (by decide) b hb he), h.ar, h.tl, h.n24, hi, h.pl, hg⟩

theorem MV.me {w w' : World} {rb : Nat} {p : List UInt8} {i n g k g' : Nat} {T : List RE} {VN : Value} {xs : List Value} {e : Er} {B : Nat} (h : MV w rb p i n g T VN xs) (hB : Blk w'.heap rb (rc p k VN g' e.1 e.2) 187) (hk : k ≤ B) : ME w' rb p e B := by
  obtain ⟨a, c, rfl⟩ := h.own.form
  exact ⟨k, a, n, c, g', hk, hB⟩

set_option maxHeartbeats 4000000 in
theorem group151 {w : World} {rb : Nat} {p : List UInt8} {f d i n g : Nat} {T : List RE} {VN : Value} {xs : List Value} {X : PRes} (hA : AltC p f) (M : MV w rb p i n g T VN xs) (hb : p[i]? = some 40) (hd : d ≤ 5) (hX : pd p (f + 1) (.atom d) i n g = X) (hE : ∀ e, X = .error e → e.1 ≠ 0) :
    Ret Tryz.prog 151 [ptr rb, i64c d] w (fun v w' => PM w rb p (p.length + 10 - d) T VN X v w' ∧ Fram (mfr rb VN) w w') := by
  have hF : Fram (one rb) w w := Fram.refl _ _
  have hpl := M.pl
  have hB := M.blk
  have hg3 := M.g3
  have hlt := get_lt hb
  rw [pd_atom, hb] at hX
  simp only [if_true] at hX
  refine ret_of Tryz.func151 rfl Tryz.ntmps151 rfl ?_
  refine c_seq (fun K1 hK1 => ?_)
  refine c_reg ?_ -- region 0 syntaxm.go:271
  refine wl (ro_assign rfl) ?_
  refine wl_nil (x_then (hK1 _ _ ?_))
  clear hK1 K1
  refine forget [(0, _), (1, _)] ⟨rfl, rfl, trivial⟩ (fun e => ?_)
  refine c_seq (fun K2 hK2 => ?_)
  refine c_reg ?_ -- region 1 syntaxm.go:272
  refine wl (ro_move rfl) ?_
  refine wl (ro_nilCheck rfl) ?_
  refine wl (ro_fieldAddr (k := 1) rfl fo_187_1) ?_
  refine wl (ro_loadB rfl sc_3 (hB) (rfl)) ?_
  refine wl (ro_assign rfl) ?_
  refine wl_nil (x_then (hK2 _ _ ?_))
  clear hK2 K2
  refine c_seq (fun K3 hK3 => ?_)
  refine c_seq (fun K4 hK4 => ?_)
  refine c_reg ?_ -- region 2 syntaxm.go:273
  refine wl (ro_move rfl) ?_
  refine wl (ro_cmp rfl rfl rfl) ?_
  refine wl_nil (x_then (hK4 _ _ ?_))
  clear hK4 K4
  refine wc_cond rfl (fun hc13 => ?_) (fun hc13 => ?_)
  · try simp only [decide_eq_true_eq, decide_eq_false_iff_not, Bool.not_eq_true', Bool.not_eq_false', Bool.not_eq_eq_eq_not, Bool.not_true, Bool.not_false, beq_iff_eq, bne_iff_ne, ne_eq, beq_eq_false_iff_ne, bne_eq_false_iff_eq, gt_iff_lt, ge_iff_le, Int.not_lt, Int.not_le] at hc13
    have h5 : 5 ≤ d := by omega
    rw [if_pos h5] at hX
    refine c_seq (fun K5 hK5 => ?_)
    refine c_reg ?_ -- region 3 syntaxm.go:274
    refine wl (ro_move rfl) ?_
    refine wl (ro_move rfl) ?_
    refine wl_call rfl en_90 (fail90 hB) ?_
    rintro _ w9 ⟨rfl, hB, F9⟩
    replace hF := hF.trans F9
    refine wl (ro_assign rfl) ?_
    refine wl_nil (x_then (hK5 _ _ ?_))
    clear hK5 K5
    refine c_ret (x_thenR ?_)
    refine bp_ret Tryz.results151 rfl ?_
    exact ⟨PM.er (e := (6, i)) hX.symm ⟨_, rfl⟩ (M.me (k := i) (g' := g) hB (by omega)), hF.toM⟩
  · try simp only [decide_eq_true_eq, decide_eq_false_iff_not, Bool.not_eq_true', Bool.not_eq_false', Bool.not_eq_eq_eq_not, Bool.not_true, Bool.not_false, beq_iff_eq, bne_iff_ne, ne_eq, beq_eq_false_iff_ne, bne_eq_false_iff_eq, gt_iff_lt, ge_iff_le, Int.not_lt, Int.not_le] at hc13
    have h5 : ¬ 5 ≤ d := by omega
    rw [if_neg h5] at hX
    refine c_skip (x_then (hK3 _ _ ?_))
    clear hK3 K3
    refine forget [(0, _), (1, _), (5, _)] ⟨rfl, rfl, rfl, trivial⟩ (fun e => ?_)
    refine c_seq (fun K6 hK6 => ?_)
    refine c_reg ?_ -- region 4 syntaxm.go:276
    refine wl (ro_move rfl) ?_
    refine wl (ro_nilCheck rfl) ?_
    refine wl (ro_fieldAddr (k := 1) rfl fo_187_1) ?_
    refine wl (ro_loadB rfl sc_3 (hB) (rfl)) ?_
    refine wl (ro_arith rfl rfl rfl (Go.IntWalk.i64_in _ (by omega))) ?_
    refine wl (ro_nilCheck rfl) ?_
    refine wl (ro_fieldAddr (k := 1) rfl fo_187_1) ?_
    refine wl_put rfl rfl rfl sz_3 hB ((by simp)) (rfl) (fun w1 hB F1 => ?_)
    replace hF := hF.thenDrew.thenO F1 (by first | exact .inr (by omega) | exact .inl rfl | exact .inl (by assumption))
    have hcase : (p[i + 1]? = some 63 ∧ p[i + 2]? = some 58) ∨ (p[i + 1]? = some 63 ∧ ∃ c, p[i + 2]? = some c ∧ c ≠ 58) ∨ (∃ c, p[i + 1]? = some c ∧ c ≠ 63 ∧ i + 2 < p.length) ∨ p.length ≤ i + 2 := by
      by_cases h4 : i + 2 < p.length
      · have e1 : p[i + 1]? = some (p[i + 1]'(by omega)) := List.getElem?_eq_getElem (by omega)
        have e2 : p[i + 2]? = some (p[i + 2]'h4) := List.getElem?_eq_getElem h4
        by_cases h5 : p[i + 1]'(by omega) = 63
        · rw [h5] at e1
          by_cases h6 : p[i + 2]'h4 = 58
          · rw [h6] at e2; exact .inl ⟨e1, e2⟩
          · exact .inr (.inl ⟨e1, _, e2, h6⟩)
        · exact .inr (.inr (.inl ⟨_, e1, h5, h4⟩))
      · exact .inr (.inr (.inr (by omega)))
    refine wl_nil (x_then (hK6 _ _ ?_))
    clear hK6 K6
    refine forget [(0, _), (1, _), (5, _)] ⟨rfl, rfl, rfl, trivial⟩ (fun e => ?_)
    refine c_seq (fun K7 hK7 => ?_)
    refine c_reg ?_ -- region 5 syntaxm.go:277
    refine wl (ro_assign rfl) ?_
    refine wl_nil (x_then (hK7 _ _ ?_))
    clear hK7 K7
    refine c_mid (fun a' w' => ∃ (i' g' c : Nat), MV w' rb p i' n g' T VN xs ∧ grpX p f d i i' n g' c = X ∧ c ≤ 3 ∧ Fram (one rb) w w' ∧ ∃ e, a' = Fr 118 (upds e [(0, ptr rb), (1, i64c d), (5, i64c i), (6, i64c c)]) []) ?_ ?_
    · skip
      refine c_seq (fun K8 hK8 => ?_)
      rcases hcase with ⟨h1, h2⟩ | ⟨h1, c9, h2, hc9⟩ | ⟨c9, h1, hc9, h2⟩ | h2
      · skip
        have hlt2 := get_lt h2
        rw [if_pos ⟨h1, h2⟩] at hX
        refine c_pi [(0, false), (1, false), (2, false), (3, false), (4, false), (5, false), (6, false), (7, false), (8, false), (9, false), (10, false), (11, false), (12, false), (13, false), (14, false), (15, false), (16, false), (17, false), (18, false), (19, false), (20, false), (21, false), (22, false), (23, false), (24, false), (25, false), (26, false), (27, false), (28, false), (29, false), (30, false), (31, false), (32, false), (33, false), (34, false), (35, false)] (SameH _) mixed (by kernel_rfl) rfl (by kernel_rfl) (po_then (po_then (po_bp))) (sameH_now _ _) ?_ -- region 6 syntaxm.go:278
        refine pi_ro rfl (fun w hS => ro_move rfl) ?_
        refine pi_ro rfl (fun w hS => ro_nilCheck rfl) ?_
        refine pi_ro rfl (fun w hS => ro_fieldAddr (k := 1) rfl fo_187_1) ?_
        refine pi_ro rfl (fun w hS => ro_loadB rfl sc_3 (Blk.of_heap hB hS) (rfl)) ?_
        refine pi_ro rfl (fun w hS => ro_arith rfl rfl rfl (Go.IntWalk.i64_in _ (by omega))) ?_
        refine pi_ro rfl (fun w hS => ro_move rfl) ?_
        refine pi_ro rfl (fun w hS => ro_nilCheck rfl) ?_
        refine pi_ro rfl (fun w hS => ro_fieldAddr (k := 0) rfl fo_187_0) ?_
        refine pi_ro rfl (fun w hS => ro_loadB rfl sc_9 (Blk.of_heap hB hS) (rfl)) ?_
        refine pi_ro rfl (fun w hS => ro_lenS rfl st_9) ?_
        refine pi_ro rfl (fun w hS => ro_cmp (r := true) rfl rfl (congrArg some (decide_eq_true (by omega)))) ?_
        refine pi_ro rfl (fun w hS => ro_move rfl) ?_
        refine pi_gyes rfl rfl (fun w hS => ro_move rfl) ?_
        refine pi_gyes rfl rfl (fun w hS => ro_nilCheck rfl) ?_
        refine pi_gyes rfl rfl (fun w hS => ro_fieldAddr (k := 0) rfl fo_187_0) ?_
        refine pi_gyes rfl rfl (fun w hS => ro_loadB rfl sc_9 (Blk.of_heap hB hS) (rfl)) ?_
        refine pi_gyes rfl rfl (fun w hS => ro_move rfl) ?_
        refine pi_gyes rfl rfl (fun w hS => ro_nilCheck rfl) ?_
        refine pi_gyes rfl rfl (fun w hS => ro_fieldAddr (k := 1) rfl fo_187_1) ?_
        refine pi_gyes rfl rfl (fun w hS => ro_loadB rfl sc_3 (Blk.of_heap hB hS) (rfl)) ?_
        refine pi_gyes rfl rfl (fun w hS => ro_indexS rfl rfl st_9 (rfl) (h1)) ?_
        refine pi_gyes rfl rfl (fun w hS => ro_cmp (r := true) rfl rfl rfl) ?_
        refine pi_ro rfl (fun w hS => ro_pick rfl rfl rfl) ?_
        refine pi_ro rfl (fun w hS => ro_move rfl) ?_
        refine pi_gyes rfl rfl (fun w hS => ro_move rfl) ?_
        refine pi_gyes rfl rfl (fun w hS => ro_nilCheck rfl) ?_
        refine pi_gyes rfl rfl (fun w hS => ro_fieldAddr (k := 0) rfl fo_187_0) ?_
        refine pi_gyes rfl rfl (fun w hS => ro_loadB rfl sc_9 (Blk.of_heap hB hS) (rfl)) ?_
        refine pi_gyes rfl rfl (fun w hS => ro_move rfl) ?_
        refine pi_gyes rfl rfl (fun w hS => ro_nilCheck rfl) ?_
        refine pi_gyes rfl rfl (fun w hS => ro_fieldAddr (k := 1) rfl fo_187_1) ?_
        refine pi_gyes rfl rfl (fun w hS => ro_loadB rfl sc_3 (Blk.of_heap hB hS) (rfl)) ?_
        refine pi_gyes rfl rfl (fun w hS => ro_arith rfl rfl rfl (Go.IntWalk.i64_in _ (by omega))) ?_
        refine pi_gyes rfl rfl (fun w hS => ro_indexS rfl rfl st_9 ((show _ = ((i + 2 : Nat) : Int) by omega)) (h2)) ?_
        refine pi_gyes rfl rfl (fun w hS => ro_cmp (r := true) rfl rfl rfl) ?_
        refine pi_ro rfl (fun w hS => ro_pick rfl rfl rfl) ?_
        refine pi_nil (x_then (hK8 _ _ ?_))
        clear hK8 K8
        refine wc_condT rfl ?_
        refine c_reg ?_ -- region 7 syntaxm.go:279
        refine wl (ro_move rfl) ?_
        refine wl (ro_nilCheck rfl) ?_
        refine wl (ro_fieldAddr (k := 1) rfl fo_187_1) ?_
        refine wl (ro_loadB rfl sc_3 (hB) (rfl)) ?_
        refine wl (ro_arith rfl rfl rfl (Go.IntWalk.i64_in _ (by omega))) ?_
        refine wl (ro_nilCheck rfl) ?_
        refine wl (ro_fieldAddr (k := 1) rfl fo_187_1) ?_
        refine wl_put rfl rfl rfl sz_3 hB ((by simp)) (rfl) (fun w2 hB F2 => ?_)
        replace hF := hF.thenDrew.thenO F2 (by first | exact .inr (by omega) | exact .inl rfl | exact .inl (by assumption))
        refine wl_nil (x_then ?_)
        exact ⟨i + 3, g, 0, M.at hB hF (by omega), by unfold grpX; rw [← hX]; rfl, by omega, hF, kp _ ⟨rfl, rfl, rfl, rfl, trivial⟩⟩
      · skip
        have hlt2 := get_lt h2
        rw [if_neg (by rw [h2]; simp [hc9])] at hX
        refine c_pi [(0, false), (1, false), (2, false), (3, false), (4, false), (5, false), (6, false), (7, false), (8, false), (9, false), (10, false), (11, false), (12, false), (13, false), (14, false), (15, false), (16, false), (17, false), (18, false), (19, false), (20, false), (21, false), (22, false), (23, false), (24, false), (25, false), (26, false), (27, false), (28, false), (29, false), (30, false), (31, false), (32, false), (33, false), (34, false), (35, false)] (SameH _) mixed (by kernel_rfl) rfl (by kernel_rfl) (po_then (po_then (po_bp))) (sameH_now _ _) ?_ -- region 6 syntaxm.go:278
        refine pi_ro rfl (fun w hS => ro_move rfl) ?_
        refine pi_ro rfl (fun w hS => ro_nilCheck rfl) ?_
        refine pi_ro rfl (fun w hS => ro_fieldAddr (k := 1) rfl fo_187_1) ?_
        refine pi_ro rfl (fun w hS => ro_loadB rfl sc_3 (Blk.of_heap hB hS) (rfl)) ?_
        refine pi_ro rfl (fun w hS => ro_arith rfl rfl rfl (Go.IntWalk.i64_in _ (by omega))) ?_
        refine pi_ro rfl (fun w hS => ro_move rfl) ?_
        refine pi_ro rfl (fun w hS => ro_nilCheck rfl) ?_
        refine pi_ro rfl (fun w hS => ro_fieldAddr (k := 0) rfl fo_187_0) ?_
        refine pi_ro rfl (fun w hS => ro_loadB rfl sc_9 (Blk.of_heap hB hS) (rfl)) ?_
        refine pi_ro rfl (fun w hS => ro_lenS rfl st_9) ?_
        refine pi_ro rfl (fun w hS => ro_cmp (r := true) rfl rfl (congrArg some (decide_eq_true (by omega)))) ?_
        refine pi_ro rfl (fun w hS => ro_move rfl) ?_
        refine pi_gyes rfl rfl (fun w hS => ro_move rfl) ?_
        refine pi_gyes rfl rfl (fun w hS => ro_nilCheck rfl) ?_
        refine pi_gyes rfl rfl (fun w hS => ro_fieldAddr (k := 0) rfl fo_187_0) ?_
        refine pi_gyes rfl rfl (fun w hS => ro_loadB rfl sc_9 (Blk.of_heap hB hS) (rfl)) ?_
        refine pi_gyes rfl rfl (fun w hS => ro_move rfl) ?_
        refine pi_gyes rfl rfl (fun w hS => ro_nilCheck rfl) ?_
        refine pi_gyes rfl rfl (fun w hS => ro_fieldAddr (k := 1) rfl fo_187_1) ?_
        refine pi_gyes rfl rfl (fun w hS => ro_loadB rfl sc_3 (Blk.of_heap hB hS) (rfl)) ?_
        refine pi_gyes rfl rfl (fun w hS => ro_indexS rfl rfl st_9 (rfl) (h1)) ?_
        refine pi_gyes rfl rfl (fun w hS => ro_cmp (r := true) rfl rfl rfl) ?_
        refine pi_ro rfl (fun w hS => ro_pick rfl rfl rfl) ?_
        refine pi_ro rfl (fun w hS => ro_move rfl) ?_
        refine pi_gyes rfl rfl (fun w hS => ro_move rfl) ?_
        refine pi_gyes rfl rfl (fun w hS => ro_nilCheck rfl) ?_
        refine pi_gyes rfl rfl (fun w hS => ro_fieldAddr (k := 0) rfl fo_187_0) ?_
        refine pi_gyes rfl rfl (fun w hS => ro_loadB rfl sc_9 (Blk.of_heap hB hS) (rfl)) ?_
        refine pi_gyes rfl rfl (fun w hS => ro_move rfl) ?_
        refine pi_gyes rfl rfl (fun w hS => ro_nilCheck rfl) ?_
        refine pi_gyes rfl rfl (fun w hS => ro_fieldAddr (k := 1) rfl fo_187_1) ?_
        refine pi_gyes rfl rfl (fun w hS => ro_loadB rfl sc_3 (Blk.of_heap hB hS) (rfl)) ?_
        refine pi_gyes rfl rfl (fun w hS => ro_arith rfl rfl rfl (Go.IntWalk.i64_in _ (by omega))) ?_
        refine pi_gyes rfl rfl (fun w hS => ro_indexS rfl rfl st_9 ((show _ = ((i + 2 : Nat) : Int) by omega)) (h2)) ?_
        refine pi_gyes rfl rfl (fun w hS => ro_cmp (r := false) rfl rfl (congrArg some ((u8eq c9 58).trans (decide_eq_false hc9)))) ?_
        refine pi_ro rfl (fun w hS => ro_pick rfl rfl rfl) ?_
        refine pi_nil (x_then (hK8 _ _ ?_))
        clear hK8 K8
        refine wc_condF rfl ?_
        refine c_seq (fun K9 hK9 => ?_)
        refine c_seq (fun K10 hK10 => ?_)
        refine c_reg ?_ -- region 8 syntaxm.go:281
        refine wl (ro_move rfl) ?_
        refine wl (ro_nilCheck rfl) ?_
        refine wl (ro_fieldAddr (k := 3) rfl fo_187_3) ?_
        refine wl (ro_loadB rfl sc_3 (hB) (rfl)) ?_
        refine wl (ro_cmp rfl rfl rfl) ?_
        refine wl_nil (x_then (hK10 _ _ ?_))
        clear hK10 K10
        refine wc_cond rfl (fun hc71 => ?_) (fun hc71 => ?_)
        · try simp only [decide_eq_true_eq, decide_eq_false_iff_not, Bool.not_eq_true', Bool.not_eq_false', Bool.not_eq_eq_eq_not, Bool.not_true, Bool.not_false, beq_iff_eq, bne_iff_ne, ne_eq, beq_eq_false_iff_ne, bne_eq_false_iff_eq, gt_iff_lt, ge_iff_le, Int.not_lt, Int.not_le] at hc71
          have hg : 3 ≤ g := by omega
          rw [if_pos hg] at hX
          refine c_seq (fun K11 hK11 => ?_)
          refine c_reg ?_ -- region 9 syntaxm.go:282
          refine wl (ro_move rfl) ?_
          refine wl (ro_move rfl) ?_
          refine wl_call rfl en_90 (fail90 hB) ?_
          rintro _ w9 ⟨rfl, hB, F9⟩
          replace hF := hF.thenDrew.trans F9
          refine wl (ro_assign rfl) ?_
          refine wl_nil (x_then (hK11 _ _ ?_))
          clear hK11 K11
          refine c_ret (x_thenR (x_thenR ?_))
          refine bp_ret Tryz.results151 rfl ?_
          exact ⟨PM.er (e := (7, i)) hX.symm ⟨_, rfl⟩ (M.me (k := i + 1) (g' := g) hB (by omega)), hF.toM⟩
        · try simp only [decide_eq_true_eq, decide_eq_false_iff_not, Bool.not_eq_true', Bool.not_eq_false', Bool.not_eq_eq_eq_not, Bool.not_true, Bool.not_false, beq_iff_eq, bne_iff_ne, ne_eq, beq_eq_false_iff_ne, bne_eq_false_iff_eq, gt_iff_lt, ge_iff_le, Int.not_lt, Int.not_le] at hc71
          have hg : ¬ 3 ≤ g := by omega
          rw [if_neg hg] at hX
          refine c_skip (x_then (hK9 _ _ ?_))
          clear hK9 K9
          refine forget [(0, _), (1, _), (5, _)] ⟨rfl, rfl, rfl, trivial⟩ (fun e => ?_)
          refine c_seq (fun K12 hK12 => ?_)
          refine c_reg ?_ -- region 10 syntaxm.go:284
          refine wl (ro_move rfl) ?_
          refine wl (ro_nilCheck rfl) ?_
          refine wl (ro_fieldAddr (k := 3) rfl fo_187_3) ?_
          refine wl (ro_loadB rfl sc_3 (hB) (rfl)) ?_
          refine wl (ro_arith rfl rfl rfl (Go.IntWalk.i64_in _ (by omega))) ?_
          refine wl (ro_nilCheck rfl) ?_
          refine wl (ro_fieldAddr (k := 3) rfl fo_187_3) ?_
          refine wl_put rfl rfl rfl sz_3 hB ((by simp)) (rfl) (fun w3 hB F3 => ?_)
          replace hF := hF.thenDrew.thenO F3 (by first | exact .inr (by omega) | exact .inl rfl | exact .inl (by assumption))
          refine wl_nil (x_then (hK12 _ _ ?_))
          clear hK12 K12
          refine c_reg ?_ -- region 11 syntaxm.go:285
          refine wl (ro_move rfl) ?_
          refine wl (ro_nilCheck rfl) ?_
          refine wl (ro_fieldAddr (k := 3) rfl fo_187_3) ?_
          refine wl (ro_loadB rfl sc_3 (hB) (rfl)) ?_
          refine wl (ro_assign rfl) ?_
          refine wl_nil (x_then ?_)
          exact ⟨i + 1, g + 1, g + 1, M.setG hB hF (by omega) (by omega), by unfold grpX; rw [← hX]; rfl, by omega, hF, kp _ ⟨rfl, rfl, rfl, rfl, trivial⟩⟩
      · skip
        rw [if_neg (by rw [h1]; simp [hc9])] at hX
        refine c_pi [(0, false), (1, false), (2, false), (3, false), (4, false), (5, false), (6, false), (7, false), (8, false), (9, false), (10, false), (11, false), (12, false), (13, false), (14, false), (15, false), (16, false), (17, false), (18, false), (19, false), (20, false), (21, false), (22, false), (23, false), (24, false), (25, false), (26, false), (27, false), (28, false), (29, false), (30, false), (31, false), (32, false), (33, false), (34, false), (35, false)] (SameH _) mixed (by kernel_rfl) rfl (by kernel_rfl) (po_then (po_then (po_bp))) (sameH_now _ _) ?_ -- region 6 syntaxm.go:278
        refine pi_ro rfl (fun w hS => ro_move rfl) ?_
        refine pi_ro rfl (fun w hS => ro_nilCheck rfl) ?_
        refine pi_ro rfl (fun w hS => ro_fieldAddr (k := 1) rfl fo_187_1) ?_
        refine pi_ro rfl (fun w hS => ro_loadB rfl sc_3 (Blk.of_heap hB hS) (rfl)) ?_
        refine pi_ro rfl (fun w hS => ro_arith rfl rfl rfl (Go.IntWalk.i64_in _ (by omega))) ?_
        refine pi_ro rfl (fun w hS => ro_move rfl) ?_
        refine pi_ro rfl (fun w hS => ro_nilCheck rfl) ?_
        refine pi_ro rfl (fun w hS => ro_fieldAddr (k := 0) rfl fo_187_0) ?_
        refine pi_ro rfl (fun w hS => ro_loadB rfl sc_9 (Blk.of_heap hB hS) (rfl)) ?_
        refine pi_ro rfl (fun w hS => ro_lenS rfl st_9) ?_
        refine pi_ro rfl (fun w hS => ro_cmp (r := true) rfl rfl (congrArg some (decide_eq_true (by omega)))) ?_
        refine pi_ro rfl (fun w hS => ro_move rfl) ?_
        refine pi_gyes rfl rfl (fun w hS => ro_move rfl) ?_
        refine pi_gyes rfl rfl (fun w hS => ro_nilCheck rfl) ?_
        refine pi_gyes rfl rfl (fun w hS => ro_fieldAddr (k := 0) rfl fo_187_0) ?_
        refine pi_gyes rfl rfl (fun w hS => ro_loadB rfl sc_9 (Blk.of_heap hB hS) (rfl)) ?_
        refine pi_gyes rfl rfl (fun w hS => ro_move rfl) ?_
        refine pi_gyes rfl rfl (fun w hS => ro_nilCheck rfl) ?_
        refine pi_gyes rfl rfl (fun w hS => ro_fieldAddr (k := 1) rfl fo_187_1) ?_
        refine pi_gyes rfl rfl (fun w hS => ro_loadB rfl sc_3 (Blk.of_heap hB hS) (rfl)) ?_
        refine pi_gyes rfl rfl (fun w hS => ro_indexS rfl rfl st_9 (rfl) (h1)) ?_
        refine pi_gyes rfl rfl (fun w hS => ro_cmp (r := false) rfl rfl (congrArg some ((u8eq c9 63).trans (decide_eq_false hc9)))) ?_
        refine pi_ro rfl (fun w hS => ro_pick rfl rfl rfl) ?_
        refine pi_ro rfl (fun w hS => ro_move rfl) ?_
        refine pi_gno rfl rfl ?_
        refine pi_gno rfl rfl ?_
        refine pi_gno rfl rfl ?_
        refine pi_gno rfl rfl ?_
        refine pi_gno rfl rfl ?_
        refine pi_gno rfl rfl ?_
        refine pi_gno rfl rfl ?_
        refine pi_gno rfl rfl ?_
        refine pi_gno rfl rfl ?_
        refine pi_gno rfl rfl ?_
        refine pi_gno rfl rfl ?_
        refine pi_ro rfl (fun w hS => ro_pick rfl rfl rfl) ?_
        refine pi_nil (x_then (hK8 _ _ ?_))
        clear hK8 K8
        refine wc_condF rfl ?_
        refine c_seq (fun K13 hK13 => ?_)
        refine c_seq (fun K14 hK14 => ?_)
        refine c_reg ?_ -- region 8 syntaxm.go:281
        refine wl (ro_move rfl) ?_
        refine wl (ro_nilCheck rfl) ?_
        refine wl (ro_fieldAddr (k := 3) rfl fo_187_3) ?_
        refine wl (ro_loadB rfl sc_3 (hB) (rfl)) ?_
        refine wl (ro_cmp rfl rfl rfl) ?_
        refine wl_nil (x_then (hK14 _ _ ?_))
        clear hK14 K14
        refine wc_cond rfl (fun hc71 => ?_) (fun hc71 => ?_)
        · try simp only [decide_eq_true_eq, decide_eq_false_iff_not, Bool.not_eq_true', Bool.not_eq_false', Bool.not_eq_eq_eq_not, Bool.not_true, Bool.not_false, beq_iff_eq, bne_iff_ne, ne_eq, beq_eq_false_iff_ne, bne_eq_false_iff_eq, gt_iff_lt, ge_iff_le, Int.not_lt, Int.not_le] at hc71
          have hg : 3 ≤ g := by omega
          rw [if_pos hg] at hX
          refine c_seq (fun K15 hK15 => ?_)
          refine c_reg ?_ -- region 9 syntaxm.go:282
          refine wl (ro_move rfl) ?_
          refine wl (ro_move rfl) ?_
          refine wl_call rfl en_90 (fail90 hB) ?_
          rintro _ w9 ⟨rfl, hB, F9⟩
          replace hF := hF.thenDrew.trans F9
          refine wl (ro_assign rfl) ?_
          refine wl_nil (x_then (hK15 _ _ ?_))
          clear hK15 K15
          refine c_ret (x_thenR (x_thenR ?_))
          refine bp_ret Tryz.results151 rfl ?_
          exact ⟨PM.er (e := (7, i)) hX.symm ⟨_, rfl⟩ (M.me (k := i + 1) (g' := g) hB (by omega)), hF.toM⟩
        · try simp only [decide_eq_true_eq, decide_eq_false_iff_not, Bool.not_eq_true', Bool.not_eq_false', Bool.not_eq_eq_eq_not, Bool.not_true, Bool.not_false, beq_iff_eq, bne_iff_ne, ne_eq, beq_eq_false_iff_ne, bne_eq_false_iff_eq, gt_iff_lt, ge_iff_le, Int.not_lt, Int.not_le] at hc71
          have hg : ¬ 3 ≤ g := by omega
          rw [if_neg hg] at hX
          refine c_skip (x_then (hK13 _ _ ?_))
          clear hK13 K13
          refine forget [(0, _), (1, _), (5, _)] ⟨rfl, rfl, rfl, trivial⟩ (fun e => ?_)
          refine c_seq (fun K16 hK16 => ?_)
          refine c_reg ?_ -- region 10 syntaxm.go:284
          refine wl (ro_move rfl) ?_
          refine wl (ro_nilCheck rfl) ?_
          refine wl (ro_fieldAddr (k := 3) rfl fo_187_3) ?_
          refine wl (ro_loadB rfl sc_3 (hB) (rfl)) ?_
          refine wl (ro_arith rfl rfl rfl (Go.IntWalk.i64_in _ (by omega))) ?_
          refine wl (ro_nilCheck rfl) ?_
          refine wl (ro_fieldAddr (k := 3) rfl fo_187_3) ?_
          refine wl_put rfl rfl rfl sz_3 hB ((by simp)) (rfl) (fun w4 hB F4 => ?_)
          replace hF := hF.thenDrew.thenO F4 (by first | exact .inr (by omega) | exact .inl rfl | exact .inl (by assumption))
          refine wl_nil (x_then (hK16 _ _ ?_))
          clear hK16 K16
          refine c_reg ?_ -- region 11 syntaxm.go:285
          refine wl (ro_move rfl) ?_
          refine wl (ro_nilCheck rfl) ?_
          refine wl (ro_fieldAddr (k := 3) rfl fo_187_3) ?_
          refine wl (ro_loadB rfl sc_3 (hB) (rfl)) ?_
          refine wl (ro_assign rfl) ?_
          refine wl_nil (x_then ?_)
          exact ⟨i + 1, g + 1, g + 1, M.setG hB hF (by omega) (by omega), by unfold grpX; rw [← hX]; rfl, by omega, hF, kp _ ⟨rfl, rfl, rfl, rfl, trivial⟩⟩
      · skip
        rw [if_neg (by rw [List.getElem?_eq_none h2]; simp)] at hX
        refine c_pi [(0, false), (1, false), (2, false), (3, false), (4, false), (5, false), (6, false), (7, false), (8, false), (9, false), (10, false), (11, false), (12, false), (13, false), (14, false), (15, false), (16, false), (17, false), (18, false), (19, false), (20, false), (21, false), (22, false), (23, false), (24, false), (25, false), (26, false), (27, false), (28, false), (29, false), (30, false), (31, false), (32, false), (33, false), (34, false), (35, false)] (SameH _) mixed (by kernel_rfl) rfl (by kernel_rfl) (po_then (po_then (po_bp))) (sameH_now _ _) ?_ -- region 6 syntaxm.go:278
        refine pi_ro rfl (fun w hS => ro_move rfl) ?_
        refine pi_ro rfl (fun w hS => ro_nilCheck rfl) ?_
        refine pi_ro rfl (fun w hS => ro_fieldAddr (k := 1) rfl fo_187_1) ?_
        refine pi_ro rfl (fun w hS => ro_loadB rfl sc_3 (Blk.of_heap hB hS) (rfl)) ?_
        refine pi_ro rfl (fun w hS => ro_arith rfl rfl rfl (Go.IntWalk.i64_in _ (by omega))) ?_
        refine pi_ro rfl (fun w hS => ro_move rfl) ?_
        refine pi_ro rfl (fun w hS => ro_nilCheck rfl) ?_
        refine pi_ro rfl (fun w hS => ro_fieldAddr (k := 0) rfl fo_187_0) ?_
        refine pi_ro rfl (fun w hS => ro_loadB rfl sc_9 (Blk.of_heap hB hS) (rfl)) ?_
        refine pi_ro rfl (fun w hS => ro_lenS rfl st_9) ?_
        refine pi_ro rfl (fun w hS => ro_cmp (r := false) rfl rfl (congrArg some (decide_eq_false (by omega)))) ?_
        refine pi_ro rfl (fun w hS => ro_move rfl) ?_
        refine pi_gno rfl rfl ?_
        refine pi_gno rfl rfl ?_
        refine pi_gno rfl rfl ?_
        refine pi_gno rfl rfl ?_
        refine pi_gno rfl rfl ?_
        refine pi_gno rfl rfl ?_
        refine pi_gno rfl rfl ?_
        refine pi_gno rfl rfl ?_
        refine pi_gno rfl rfl ?_
        refine pi_gno rfl rfl ?_
        refine pi_ro rfl (fun w hS => ro_pick rfl rfl rfl) ?_
        refine pi_ro rfl (fun w hS => ro_move rfl) ?_
        refine pi_gno rfl rfl ?_
        refine pi_gno rfl rfl ?_
        refine pi_gno rfl rfl ?_
        refine pi_gno rfl rfl ?_
        refine pi_gno rfl rfl ?_
        refine pi_gno rfl rfl ?_
        refine pi_gno rfl rfl ?_
        refine pi_gno rfl rfl ?_
        refine pi_gno rfl rfl ?_
        refine pi_gno rfl rfl ?_
        refine pi_gno rfl rfl ?_
        refine pi_ro rfl (fun w hS => ro_pick rfl rfl rfl) ?_
        refine pi_nil (x_then (hK8 _ _ ?_))
        clear hK8 K8
        refine wc_condF rfl ?_
        refine c_seq (fun K17 hK17 => ?_)
        refine c_seq (fun K18 hK18 => ?_)
        refine c_reg ?_ -- region 8 syntaxm.go:281
        refine wl (ro_move rfl) ?_
        refine wl (ro_nilCheck rfl) ?_
        refine wl (ro_fieldAddr (k := 3) rfl fo_187_3) ?_
        refine wl (ro_loadB rfl sc_3 (hB) (rfl)) ?_
        refine wl (ro_cmp rfl rfl rfl) ?_
        refine wl_nil (x_then (hK18 _ _ ?_))
        clear hK18 K18
        refine wc_cond rfl (fun hc71 => ?_) (fun hc71 => ?_)
        · try simp only [decide_eq_true_eq, decide_eq_false_iff_not, Bool.not_eq_true', Bool.not_eq_false', Bool.not_eq_eq_eq_not, Bool.not_true, Bool.not_false, beq_iff_eq, bne_iff_ne, ne_eq, beq_eq_false_iff_ne, bne_eq_false_iff_eq, gt_iff_lt, ge_iff_le, Int.not_lt, Int.not_le] at hc71
          have hg : 3 ≤ g := by omega
          rw [if_pos hg] at hX
          refine c_seq (fun K19 hK19 => ?_)
          refine c_reg ?_ -- region 9 syntaxm.go:282
          refine wl (ro_move rfl) ?_
          refine wl (ro_move rfl) ?_
          refine wl_call rfl en_90 (fail90 hB) ?_
          rintro _ w9 ⟨rfl, hB, F9⟩
          replace hF := hF.thenDrew.trans F9
          refine wl (ro_assign rfl) ?_
          refine wl_nil (x_then (hK19 _ _ ?_))
          clear hK19 K19
          refine c_ret (x_thenR (x_thenR ?_))
          refine bp_ret Tryz.results151 rfl ?_
          exact ⟨PM.er (e := (7, i)) hX.symm ⟨_, rfl⟩ (M.me (k := i + 1) (g' := g) hB (by omega)), hF.toM⟩
        · try simp only [decide_eq_true_eq, decide_eq_false_iff_not, Bool.not_eq_true', Bool.not_eq_false', Bool.not_eq_eq_eq_not, Bool.not_true, Bool.not_false, beq_iff_eq, bne_iff_ne, ne_eq, beq_eq_false_iff_ne, bne_eq_false_iff_eq, gt_iff_lt, ge_iff_le, Int.not_lt, Int.not_le] at hc71
          have hg : ¬ 3 ≤ g := by omega
          rw [if_neg hg] at hX
          refine c_skip (x_then (hK17 _ _ ?_))
          clear hK17 K17
          refine forget [(0, _), (1, _), (5, _)] ⟨rfl, rfl, rfl, trivial⟩ (fun e => ?_)
          refine c_seq (fun K20 hK20 => ?_)
          refine c_reg ?_ -- region 10 syntaxm.go:284
          refine wl (ro_move rfl) ?_
          refine wl (ro_nilCheck rfl) ?_
          refine wl (ro_fieldAddr (k := 3) rfl fo_187_3) ?_
          refine wl (ro_loadB rfl sc_3 (hB) (rfl)) ?_
          refine wl (ro_arith rfl rfl rfl (Go.IntWalk.i64_in _ (by omega))) ?_
          refine wl (ro_nilCheck rfl) ?_
          refine wl (ro_fieldAddr (k := 3) rfl fo_187_3) ?_
          refine wl_put rfl rfl rfl sz_3 hB ((by simp)) (rfl) (fun w5 hB F5 => ?_)
          replace hF := hF.thenDrew.thenO F5 (by first | exact .inr (by omega) | exact .inl rfl | exact .inl (by assumption))
          refine wl_nil (x_then (hK20 _ _ ?_))
          clear hK20 K20
          refine c_reg ?_ -- region 11 syntaxm.go:285
          refine wl (ro_move rfl) ?_
          refine wl (ro_nilCheck rfl) ?_
          refine wl (ro_fieldAddr (k := 3) rfl fo_187_3) ?_
          refine wl (ro_loadB rfl sc_3 (hB) (rfl)) ?_
          refine wl (ro_assign rfl) ?_
          refine wl_nil (x_then ?_)
          exact ⟨i + 1, g + 1, g + 1, M.setG hB hF (by omega) (by omega), by unfold grpX; rw [← hX]; rfl, by omega, hF, kp _ ⟨rfl, rfl, rfl, rfl, trivial⟩⟩
    clear hB hF hX
    rintro a' w2 ⟨i', g', c, M2, hX, hc3, hF, e, rfl⟩
    unfold grpX at hX
    have hB := M2.blk
    have hG : Fram (one rb) w2 w2 := Fram.refl _ _
    have hmr : mfr rb VN rb := .inl rfl
    have hE2 : ∀ e, pd p f (.alt (d + 1)) i' n g' = .error e → e.1 ≠ 0 := fun e h => hE e (by rw [← hX, h])
    refine c_seq (fun K21 hK21 => ?_)
    refine c_reg ?_ -- region 12 syntaxm.go:287
    refine wl (ro_move rfl) ?_
    refine wl (ro_move rfl) ?_
    refine wl (ro_arith rfl rfl rfl (Go.IntWalk.i64_in _ (by omega))) ?_
    refine wl_call rfl en_89 (hA w2 rb (d + 1) i' n g' T VN xs _ M2 (by omega) rfl hE2) ?_
    rintro v w4 ⟨hP, F4⟩
    have hF0 := hF
    replace hF := hF.toM.mfrM F4 (nob.refl _ _)
    clear hB hG
    have hG : Fram (one rb) w4 w4 := Fram.refl _ _
    refine wl (ro_assign rfl) ?_
    refine wl_nil (x_then (hK21 _ _ ?_))
    clear hK21 K21
    refine c_seq (fun K22 hK22 => ?_)
    refine c_seq (fun K23 hK23 => ?_)
    rcases hPd : pd p f (.alt (d + 1)) i' n g' with e4 | ⟨x4, j4, n4, g4⟩
    · skip
      rw [hPd] at hP hX
      obtain ⟨⟨z, rfl⟩, k4, a4, l4, c4, gg4, hk4, hB⟩ := hP
      have he4 := hE2 e4 hPd
      simp only at hX
      refine c_reg ?_ -- region 13 syntaxm.go:288
      refine wl (ro_move rfl) ?_
      refine wl (ro_nilCheck rfl) ?_
      refine wl (ro_fieldAddr (k := 4) rfl fo_187_4) ?_
      refine wl (ro_loadB rfl sc_53 (hB) (rfl)) ?_
      refine wl (ro_cmp (r := false) rfl rfl (congrArg some ((beqc e4.1 0).trans (decide_eq_false he4)))) ?_
      refine wl (ro_move rfl) ?_
      refine wlg_no rfl ?_
      refine wlg_no rfl ?_
      refine wlg_no rfl ?_
      refine wl (ro_pick rfl rfl rfl) ?_
      refine wl_nil (x_then (hK23 _ _ ?_))
      clear hK23 K23
      refine wc_condF rfl ?_
      refine c_skip (x_then (hK22 _ _ ?_))
      clear hK22 K22
      refine forget [(0, _), (6, _), (7, _)] ⟨rfl, rfl, rfl, trivial⟩ (fun e => ?_)
      refine c_seq (fun K24 hK24 => ?_)
      refine c_reg ?_ -- region 15 syntaxm.go:291
      refine wl (ro_move rfl) ?_
      refine wl (ro_nilCheck rfl) ?_
      refine wl (ro_fieldAddr (k := 1) rfl fo_187_1) ?_
      refine wl (ro_loadB rfl sc_3 (hB) (rfl)) ?_
      refine wl (ro_arith rfl rfl rfl (Go.IntWalk.i64_in _ (by omega))) ?_
      refine wl (ro_nilCheck rfl) ?_
      refine wl (ro_fieldAddr (k := 1) rfl fo_187_1) ?_
      refine wl_put rfl rfl rfl sz_3 hB ((by simp)) (rfl) (fun w6 hB F6 => ?_)
      replace hF := hF.thenDrew.thenO F6 (by first | exact .inr (by omega) | exact .inl rfl | exact .inl (by assumption))
      replace hG := hG.thenDrew.thenO F6 (by first | exact .inr (by omega) | exact .inl rfl | exact .inl (by assumption))
      refine wl_nil (x_then (hK24 _ _ ?_))
      clear hK24 K24
      refine c_seq (fun K25 hK25 => ?_)
      refine c_seq (fun K26 hK26 => ?_)
      refine c_reg ?_ -- region 16 syntaxm.go:292
      refine wl (ro_move rfl) ?_
      refine wl (ro_cmp rfl rfl rfl) ?_
      refine wl_nil (x_then (hK26 _ _ ?_))
      clear hK26 K26
      refine wc_cond rfl (fun hc111 => ?_) (fun hc111 => ?_)
      · try simp only [decide_eq_true_eq, decide_eq_false_iff_not, Bool.not_eq_true', Bool.not_eq_false', Bool.not_eq_eq_eq_not, Bool.not_true, Bool.not_false, beq_iff_eq, bne_iff_ne, ne_eq, beq_eq_false_iff_ne, bne_eq_false_iff_eq, gt_iff_lt, ge_iff_le, Int.not_lt, Int.not_le] at hc111
        skip
        refine c_reg ?_ -- region 17 syntaxm.go:293
        refine wl (ro_move rfl) ?_
        refine wl (ro_move rfl) ?_
        refine wl (ro_move rfl) ?_
        refine wl (ro_build rfl bld_89_0_1_2_5) ?_
        rw [nd0]
        refine wl_call rfl en_116 (add116e (e := e4) (B := p.length + 10 - d) ⟨k4 + 1, a4, l4, c4, gg4, by omega, hB⟩ he4) ?_
        rintro _ w9 ⟨rfl, hE9, F9⟩
        have hfin : PM w rb p (p.length + 10 - d) T VN X (icv (-1)) w9 ∧ Fram (mfr rb VN) w w9 := ⟨PM.er (e := e4) hX.symm ⟨_, rfl⟩ hE9, hF.mfrN F9⟩
        refine wl (ro_assign rfl) ?_
        refine wl_nil (x_then (hK25 _ _ ?_))
        clear hK25 K25
        refine forget [(7, _)] ⟨rfl, trivial⟩ (fun e => ?_)
        refine c_seq (fun K27 hK27 => ?_)
        refine c_reg ?_ -- region 18 syntaxm.go:295
        refine wl (ro_move rfl) ?_
        refine wl (ro_assign rfl) ?_
        refine wl_nil (x_then (hK27 _ _ ?_))
        clear hK27 K27
        refine c_ret ?_
        refine bp_ret Tryz.results151 rfl ?_
        exact hfin
      · try simp only [decide_eq_true_eq, decide_eq_false_iff_not, Bool.not_eq_true', Bool.not_eq_false', Bool.not_eq_eq_eq_not, Bool.not_true, Bool.not_false, beq_iff_eq, bne_iff_ne, ne_eq, beq_eq_false_iff_ne, bne_eq_false_iff_eq, gt_iff_lt, ge_iff_le, Int.not_lt, Int.not_le] at hc111
        have hfin : PM w rb p (p.length + 10 - d) T VN X (icv z) _ ∧ Fram (mfr rb VN) w _ := ⟨PM.er (e := e4) hX.symm ⟨_, rfl⟩ ⟨k4 + 1, a4, l4, c4, gg4, by omega, hB⟩, hF⟩
        refine c_skip (x_then (hK25 _ _ ?_))
        clear hK25 K25
        refine forget [(7, _)] ⟨rfl, trivial⟩ (fun e => ?_)
        refine c_seq (fun K28 hK28 => ?_)
        refine c_reg ?_ -- region 18 syntaxm.go:295
        refine wl (ro_move rfl) ?_
        refine wl (ro_assign rfl) ?_
        refine wl_nil (x_then (hK28 _ _ ?_))
        clear hK28 K28
        refine c_ret ?_
        refine bp_ret Tryz.results151 rfl ?_
        exact hfin
    · skip
      rw [hPd] at hP hX
      obtain ⟨T4, VN4, xs4, k4, rfl, hTk, M4, hn4, hU4⟩ := hP
      simp only at hX
      have hB := M4.blk
      have hj4 := M4.il
      have hlk : k4 < n4 := by have := ND.u (cs := []) hTk; have := M4.tl; omega
      refine c_reg ?_ -- region 13 syntaxm.go:288
      refine wl (ro_move rfl) ?_
      refine wl (ro_nilCheck rfl) ?_
      refine wl (ro_fieldAddr (k := 4) rfl fo_187_4) ?_
      refine wl (ro_loadB rfl sc_53 (hB) (rfl)) ?_
      refine wl (ro_cmp (r := true) rfl rfl rfl) ?_
      refine wl (ro_move rfl) ?_
      refine wlg_yes rfl (ro_move rfl) ?_
      refine wlg_call rfl rfl en_115 (is115 (c := 41) hB) ?_
      rintro _ w5 ⟨rfl, F5⟩
      replace hF := hF.thenN F5
      replace hG := hG.thenN F5
      replace hB := F5.blkN hB
      refine wlg_yes rfl (ro_not rfl) ?_
      refine wl (ro_pick rfl rfl rfl) ?_
      refine wl_nil (x_then (hK23 _ _ ?_))
      clear hK23 K23
      refine wc_cond rfl (fun hc99 => ?_) (fun hc99 => ?_)
      · try simp only [decide_eq_true_eq, decide_eq_false_iff_not, Bool.not_eq_true', Bool.not_eq_false', Bool.not_eq_eq_eq_not, Bool.not_true, Bool.not_false, beq_iff_eq, bne_iff_ne, ne_eq, beq_eq_false_iff_ne, bne_eq_false_iff_eq, gt_iff_lt, ge_iff_le, Int.not_lt, Int.not_le] at hc99
        have h41 : ¬ p[j4]? = some 41 := by simpa using hc99
        rw [if_neg h41] at hX
        refine c_seq (fun K29 hK29 => ?_)
        refine c_reg ?_ -- region 14 syntaxm.go:289
        refine wl (ro_move rfl) ?_
        refine wl (ro_move rfl) ?_
        refine wl_call rfl en_90 (fail90 hB) ?_
        rintro _ w9 ⟨rfl, hB, F9⟩
        have hfin : PM w rb p (p.length + 10 - d) T VN X (icv (-1)) w9 ∧ Fram (mfr rb VN) w w9 := ⟨PM.er (e := (1, i)) hX.symm ⟨_, rfl⟩ (M4.me (k := j4) (g' := g4) hB (by omega)), hF.mfrO F9⟩
        refine wl (ro_assign rfl) ?_
        refine wl_nil (x_then (hK29 _ _ ?_))
        clear hK29 K29
        refine c_ret (x_thenR ?_)
        refine bp_ret Tryz.results151 rfl ?_
        exact hfin
      · try simp only [decide_eq_true_eq, decide_eq_false_iff_not, Bool.not_eq_true', Bool.not_eq_false', Bool.not_eq_eq_eq_not, Bool.not_true, Bool.not_false, beq_iff_eq, bne_iff_ne, ne_eq, beq_eq_false_iff_ne, bne_eq_false_iff_eq, gt_iff_lt, ge_iff_le, Int.not_lt, Int.not_le] at hc99
        have h41 : p[j4]? = some 41 := by simpa using hc99
        have hlt4 := get_lt h41
        rw [if_pos h41] at hX
        refine c_skip (x_then (hK22 _ _ ?_))
        clear hK22 K22
        refine forget [(0, _), (6, _), (7, _)] ⟨rfl, rfl, rfl, trivial⟩ (fun e => ?_)
        refine c_seq (fun K30 hK30 => ?_)
        refine c_reg ?_ -- region 15 syntaxm.go:291
        refine wl (ro_move rfl) ?_
        refine wl (ro_nilCheck rfl) ?_
        refine wl (ro_fieldAddr (k := 1) rfl fo_187_1) ?_
        refine wl (ro_loadB rfl sc_3 (hB) (rfl)) ?_
        refine wl (ro_arith rfl rfl rfl (Go.IntWalk.i64_in _ (by omega))) ?_
        refine wl (ro_nilCheck rfl) ?_
        refine wl (ro_fieldAddr (k := 1) rfl fo_187_1) ?_
        refine wl_put rfl rfl rfl sz_3 hB ((by simp)) (rfl) (fun w7 hB F7 => ?_)
        replace hF := hF.thenDrew.thenO F7 (by first | exact .inr (by omega) | exact .inl rfl | exact .inl (by assumption))
        replace hG := hG.thenDrew.thenO F7 (by first | exact .inr (by omega) | exact .inl rfl | exact .inl (by assumption))
        refine wl_nil (x_then (hK30 _ _ ?_))
        clear hK30 K30
        refine c_seq (fun K31 hK31 => ?_)
        refine c_seq (fun K32 hK32 => ?_)
        refine c_reg ?_ -- region 16 syntaxm.go:292
        refine wl (ro_move rfl) ?_
        refine wl (ro_cmp rfl rfl rfl) ?_
        refine wl_nil (x_then (hK32 _ _ ?_))
        clear hK32 K32
        refine wc_cond rfl (fun hc111 => ?_) (fun hc111 => ?_)
        · try simp only [decide_eq_true_eq, decide_eq_false_iff_not, Bool.not_eq_true', Bool.not_eq_false', Bool.not_eq_eq_eq_not, Bool.not_true, Bool.not_false, beq_iff_eq, bne_iff_ne, ne_eq, beq_eq_false_iff_ne, bne_eq_false_iff_eq, gt_iff_lt, ge_iff_le, Int.not_lt, Int.not_le] at hc111
          rw [if_neg (by omega)] at hX
          have M5 := M4.at (i' := j4 + 1) hB hG (by omega)
          refine c_reg ?_ -- region 17 syntaxm.go:293
          refine wl (ro_move rfl) ?_
          refine wl (ro_move rfl) ?_
          refine wl (ro_move rfl) ?_
          refine wl (ro_build rfl bld_89_0_1_2_5) ?_
          rw [nd0]
          refine wl_call rfl en_116 (add116 (r := .grp x4 c) M5 ⟨k4, hlk, hTk, rfl⟩) ?_
          rintro v9 w9 ⟨hA9, F9⟩
          have hfin : PM w rb p (p.length + 10 - d) T VN X v9 w9 ∧ Fram (mfr rb VN) w w9 := ⟨PM.chain (hn4.after hF0) hF hU4 (hA9.pm M4.tl (by omega) hX.symm), hF.mfrM F9 (hn4.after hF0)⟩
          refine wl (ro_assign rfl) ?_
          refine wl_nil (x_then (hK31 _ _ ?_))
          clear hK31 K31
          refine forget [(7, _)] ⟨rfl, trivial⟩ (fun e => ?_)
          refine c_seq (fun K33 hK33 => ?_)
          refine c_reg ?_ -- region 18 syntaxm.go:295
          refine wl (ro_move rfl) ?_
          refine wl (ro_assign rfl) ?_
          refine wl_nil (x_then (hK33 _ _ ?_))
          clear hK33 K33
          refine c_ret ?_
          refine bp_ret Tryz.results151 rfl ?_
          exact hfin
        · try simp only [decide_eq_true_eq, decide_eq_false_iff_not, Bool.not_eq_true', Bool.not_eq_false', Bool.not_eq_eq_eq_not, Bool.not_true, Bool.not_false, beq_iff_eq, bne_iff_ne, ne_eq, beq_eq_false_iff_ne, bne_eq_false_iff_eq, gt_iff_lt, ge_iff_le, Int.not_lt, Int.not_le] at hc111
          rw [if_pos (by omega)] at hX
          have M5 := M4.at (i' := j4 + 1) hB hG (by omega)
          have hfin : PM w rb p (p.length + 10 - d) T VN X (i64c k4) _ ∧ Fram (mfr rb VN) w _ := ⟨by rw [← hX]; exact ⟨T4, VN4, xs4, k4, rfl, hTk, M5, hn4.after (hF0), hU4⟩, hF⟩
          refine c_skip (x_then (hK31 _ _ ?_))
          clear hK31 K31
          refine forget [(7, _)] ⟨rfl, trivial⟩ (fun e => ?_)
          refine c_seq (fun K34 hK34 => ?_)
          refine c_reg ?_ -- region 18 syntaxm.go:295
          refine wl (ro_move rfl) ?_
          refine wl (ro_assign rfl) ?_
          refine wl_nil (x_then (hK34 _ _ ?_))
          clear hK34 K34
          refine c_ret ?_
          refine bp_ret Tryz.results151 rfl ?_
          exact hfin

end Go.Proofs.Qxb6500567aGreat
