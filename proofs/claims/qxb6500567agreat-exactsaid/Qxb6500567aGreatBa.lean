import Derived.Test.Qxb6500567aGreatSb
import Derived.Test.Qxb6500567aGreatFc
/- The real parser: what its block holds; fail, nullOf, add. -/
namespace Go.Proofs.Qxb6500567aGreat
set_option linter.unusedVariables false
set_option linter.unusedSimpArgs false

abbrev icv (x : Int) : Value := .int .i64 x

/-- The cells of a node. -/
abbrev ndc (k : Nat) (a b mn mx cap : Int) (lz : Bool) (S : Nat) : List Value :=
  [i64c k, icv a, icv b, icv mn, icv mx, icv cap, .bool lz, u64c (wd S 0), u64c (wd S 1), u64c (wd S 2), u64c (wd S 3)]

def mxI : Option Nat → Int
  | none => -1
  | some m => m

/-- The cells cs are node k for the tree r, its children being trees of T that stand before it. -/
def ND (T : List RE) (k : Nat) (r : RE) (cs : List Value) : Prop :=
  match r with
  | .seq a b => ∃ i j : Nat, i < k ∧ j < k ∧ T[i]? = some a ∧ T[j]? = some b ∧ cs = ndc 4 i j 0 0 0 false 0
  | .cond _ a b => ∃ i j : Nat, i < k ∧ j < k ∧ T[i]? = some a ∧ T[j]? = some b ∧ cs = ndc 5 i j 0 0 0 false 0
  | .rangeFunc _ _ x a => ∃ i : Nat, i < k ∧ T[i]? = some a ∧ (rmn x ≤ 3 ∧ ∀ m, rmx x = some m → rmn x ≤ m ∧ m ≤ 3) ∧ cs = ndc 6 i (-1) (rmn x) (mxI (rmx x)) 0 (rlz x) 0
  | .block g a => ∃ i : Nat, i < k ∧ T[i]? = some a ∧ cs = ndc 7 i (-1) 0 0 g false 0
  | .goto S => cs = ndc 1 (-1) (-1) 0 0 0 false S
  | .ret => cs = ndc 2 (-1) (-1) 0 0 0 false 0
  | .label _ => cs = ndc 3 (-1) (-1) 0 0 0 false 0
  | .skip => cs = ndc 0 (-1) (-1) 0 0 0 false 0
  | _ => False

theorem get_app {T : List RE} {x a : RE} {i : Nat} (h : T[i]? = some a) : (T ++ [x])[i]? = some a := by
  rw [List.getElem?_append_left (List.getElem?_eq_some_iff.1 h).1]; exact h

theorem ND.more {T : List RE} {k : Nat} {r x : RE} {cs : List Value} (h : ND T k r cs) : ND (T ++ [x]) k r cs := by
  unfold ND at h ⊢
  split at h
  · obtain ⟨i, j, h1, h2, h3, h4, h5⟩ := h; exact ⟨i, j, h1, h2, get_app h3, get_app h4, h5⟩
  · obtain ⟨i, j, h1, h2, h3, h4, h5⟩ := h; exact ⟨i, j, h1, h2, get_app h3, get_app h4, h5⟩
  · obtain ⟨i, h1, h3, h5⟩ := h; exact ⟨i, h1, get_app h3, h5⟩
  · obtain ⟨i, h1, h3, h5⟩ := h; exact ⟨i, h1, get_app h3, h5⟩
  · exact h
  · exact h
  · exact h
  · exact h
  · exact h

theorem ND.len {T : List RE} {k : Nat} {r : RE} {cs : List Value} (h : ND T k r cs) : cs.length = 11 := by
  unfold ND at h
  split at h
  · obtain ⟨i, j, h1, h2, h3, h4, rfl⟩ := h; rfl
  · obtain ⟨i, j, h1, h2, h3, h4, rfl⟩ := h; rfl
  · obtain ⟨i, h1, h3, h4, rfl⟩ := h; rfl
  · obtain ⟨i, h1, h3, rfl⟩ := h; rfl
  · subst h; rfl
  · subst h; rfl
  · subst h; rfl
  · subst h; rfl
  · exact h.elim

/-- An arena of trees from cell o on. -/
def AR (T : List RE) (c : Nat → Value) (o : Nat) : Prop := ∀ (k : Nat) (r : RE), T[k]? = some r → ND T k r (cel 11 (fun j => c (o + 11 * k + j)))

theorem AR.push {T : List RE} {c c' : Nat → Value} {o : Nat} {r : RE} {cs : List Value} (h : AR T c o) (hn : ND T T.length r cs) (h1 : ∀ j, j < o + 11 * T.length → o ≤ j → c' j = c j) (h2 : ∀ j v, cs[j]? = some v → c' (o + 11 * T.length + j) = v) : AR (T ++ [r]) c' o := by
  intro k x hx
  by_cases hk : k < T.length
  · rw [List.getElem?_append_left hk] at hx
    have := h k x hx
    rw [cel_congr (g := fun j => c (o + 11 * k + j)) (fun j hj => h1 _ (by omega) (by omega))]
    exact this.more
  · have hl := (List.getElem?_eq_some_iff.1 hx).1
    simp at hl
    have : k = T.length := by omega
    subst this
    simp at hx
    subst hx
    have hcs : cel 11 (fun j => c' (o + 11 * T.length + j)) = cs := by
      have hl := hn.len
      rw [cel_of cs, hl]
      apply cel_congr
      intro j hj
      rw [h2 j (cs.getD j undef) (by rw [List.getD, List.getElem?_eq_getElem (by omega)]; rfl)]
    rw [hcs]
    exact hn.more

theorem AR.congr {T : List RE} {c c' : Nat → Value} {o : Nat} (h : AR T c o) (h1 : ∀ j, j < o + 11 * T.length → o ≤ j → c' j = c j) : AR T c' o := by
  intro k x hx
  have hk := (List.getElem?_eq_some_iff.1 hx).1
  rw [cel_congr (g := fun j => c (o + 11 * k + j)) (fun j hj => h1 _ (by omega) (by omega))]
  exact h k x hx

/-- An index of a tree, or -1. -/
def IX (T : List RE) (o : Option RE) (v : Value) : Prop := match o with
  | none => v = icv (-1)
  | some r => ∃ j : Nat, T[j]? = some r ∧ v = i64c j

theorem IX.more {T : List RE} {o : Option RE} {v : Value} {x : RE} (h : IX T o v) : IX (T ++ [x]) o v := by
  cases o with
  | none => exact h
  | some r => obtain ⟨j, h1, h2⟩ := h; exact ⟨j, get_app h1, h2⟩

/-- A frame of the parser's stack. -/
structure FRM (f : Nat → Value) (T : List RE) (k : Nat) (F : RF) : Prop where
  alt : IX T F.alt (f (291 + 5 * k))
  cat : IX T F.cat (f (292 + 5 * k))
  atom : IX T F.atom (f (293 + 5 * k))
  num : f (294 + 5 * k) = i64c F.num
  at' : f (295 + 5 * k) = i64c F.at'

theorem FRM.congr {f f' : Nat → Value} {T : List RE} {k : Nat} {F : RF} (h : FRM f T k F) (h1 : ∀ j, 291 + 5 * k ≤ j → j < 296 + 5 * k → f' j = f j) : FRM f' T k F :=
  ⟨by rw [h1 _ (by omega) (by omega)]; exact h.alt, by rw [h1 _ (by omega) (by omega)]; exact h.cat, by rw [h1 _ (by omega) (by omega)]; exact h.atom, by rw [h1 _ (by omega) (by omega)]; exact h.num, by rw [h1 _ (by omega) (by omega)]; exact h.at'⟩

/-- What the parser's block says. -/
structure PV (f : Nat → Value) (p : List UInt8) (σ : RS) (T : List RE) : Prop where
  p0 : f 0 = S p
  i1 : f 1 = i64c σ.i
  n : f 290 = i64c σ.n
  tl : T.length = σ.n
  n24 : σ.n ≤ 24
  ar : AR T f 2
  nu : ∀ (k : Nat) (r : RE), T[k]? = some r → f (266 + k) = .bool (nul r)
  fr : ∀ (k : Nat) (F : RF), (σ.F :: σ.K).reverse[k]? = some F → FRM f T k F
  dp : f 321 = i64c σ.K.length
  d5 : σ.K.length ≤ 5
  g : f 322 = i64c σ.g
  g3 : σ.g ≤ 3
  er : f 323 = i64c 0
  il : σ.i ≤ p.length
  pl : p.length ≤ 128

theorem PV.top {f : Nat → Value} {p : List UInt8} {σ : RS} {T : List RE} (h : PV f p σ T) : FRM f T σ.K.length σ.F := h.fr _ _ (by simp)

/-- The top frame is put anew. -/
theorem PV.setTop {f f' : Nat → Value} {p : List UInt8} {σ : RS} {T : List RE} (h : PV f p σ T) {F' : RF} (h1 : ∀ j, ¬ (291 + 5 * σ.K.length ≤ j ∧ j < 296 + 5 * σ.K.length) → f' j = f j) (h2 : FRM f' T σ.K.length F') : PV f' p { σ with F := F' } T := by
  have hd := h.d5
  have hn := h.n24
  have hl := h.tl
  refine ⟨by rw [h1 _ (by omega)]; exact h.p0, by rw [h1 _ (by omega)]; exact h.i1, by rw [h1 _ (by omega)]; exact h.n, h.tl, h.n24, h.ar.congr (fun j hj _ => h1 _ (by omega)), ?_, ?_, by rw [h1 _ (by omega)]; exact h.dp, h.d5, by rw [h1 _ (by omega)]; exact h.g, h.g3, by rw [h1 _ (by omega)]; exact h.er, h.il, h.pl⟩
  · intro k r hk
    have := (List.getElem?_eq_some_iff.1 hk).1
    rw [h1 _ (by omega)]
    exact h.nu k r hk
  · intro k F hk
    have hlt := (List.getElem?_eq_some_iff.1 hk).1
    simp at hlt
    by_cases he : k = σ.K.length
    · subst he
      simp at hk
      subst hk
      exact h2
    · refine (h.fr k F ?_).congr (fun j hj hj' => h1 _ (by omega))
      simp only [List.reverse_cons] at hk ⊢
      rw [List.getElem?_append_left (by simp; omega)] at hk ⊢
      exact hk

/-- One scalar is put anew. -/
theorem PV.setI {f : Nat → Value} {p : List UInt8} {σ : RS} {T : List RE} (h : PV f p σ T) {i : Nat} (hi : i ≤ p.length) : PV (pt f 1 (i64c i)) p { σ with i := i } T := by
  have hd := h.d5
  have hn := h.n24
  have hl := h.tl
  refine ⟨by rw [pt_ne (by omega)]; exact h.p0, pt_same, by rw [pt_ne (by omega)]; exact h.n, h.tl, h.n24, h.ar.congr (fun j hj hj' => pt_ne (by omega)), ?_, ?_, by rw [pt_ne (by omega)]; exact h.dp, h.d5, by rw [pt_ne (by omega)]; exact h.g, h.g3, by rw [pt_ne (by omega)]; exact h.er, hi, h.pl⟩
  · intro k r hk
    rw [pt_ne (by omega)]
    exact h.nu k r hk
  · intro k F hk
    exact (h.fr k F hk).congr (fun j hj hj' => pt_ne (by omega))

theorem PV.setG {f : Nat → Value} {p : List UInt8} {σ : RS} {T : List RE} (h : PV f p σ T) {g : Nat} (hg : g ≤ 3) : PV (pt f 322 (i64c g)) p { σ with g := g } T := by
  have hd := h.d5
  have hn := h.n24
  have hl := h.tl
  refine ⟨by rw [pt_ne (by omega)]; exact h.p0, by rw [pt_ne (by omega)]; exact h.i1, by rw [pt_ne (by omega)]; exact h.n, h.tl, h.n24, h.ar.congr (fun j hj hj' => pt_ne (by omega)), ?_, ?_, by rw [pt_ne (by omega)]; exact h.dp, h.d5, pt_same, hg, by rw [pt_ne (by omega)]; exact h.er, h.il, h.pl⟩
  · intro k r hk
    have := (List.getElem?_eq_some_iff.1 hk).1
    rw [pt_ne (by omega)]
    exact h.nu k r hk
  · intro k F hk
    have hlt := (List.getElem?_eq_some_iff.1 hk).1
    simp at hlt
    exact (h.fr k F hk).congr (fun j hj hj' => pt_ne (by omega))

/-- A node more. -/
theorem PV.push {f : Nat → Value} {p : List UInt8} {σ : RS} {T : List RE} (h : PV f p σ T) {r : RE} {cs : List Value} (hn : σ.n < 24) (hN : ND T σ.n r cs) :
    PV (pt (pt (pts f (2 + 11 * σ.n) cs) (266 + σ.n) (.bool (nul r))) 290 (i64c (σ.n + 1))) p { σ with n := σ.n + 1 } (T ++ [r]) := by
  have hd := h.d5
  have hl := h.tl
  have hcl := hN.len
  have out : ∀ j, j ≠ 290 → j ≠ 266 + σ.n → (j < 2 + 11 * σ.n ∨ 2 + 11 * σ.n + 11 ≤ j) → pt (pt (pts f (2 + 11 * σ.n) cs) (266 + σ.n) (.bool (nul r))) 290 (i64c (σ.n + 1)) j = f j := by
    intro j h1 h2 h3
    rw [pt_ne h1, pt_ne h2, pts_out (by omega)]
  refine ⟨by rw [out _ (by omega) (by omega) (by omega)]; exact h.p0, by rw [out _ (by omega) (by omega) (by omega)]; exact h.i1, pt_same, by simp [hl], by show σ.n + 1 ≤ 24; omega, ?_, ?_, ?_, by rw [out _ (by omega) (by omega) (by omega)]; exact h.dp, h.d5, by rw [out _ (by omega) (by omega) (by omega)]; exact h.g, h.g3, by rw [out _ (by omega) (by omega) (by omega)]; exact h.er, h.il, h.pl⟩
  · refine h.ar.push (cs := cs) (by rw [hl]; exact hN) (fun j h1 h2 => out _ (by omega) (by omega) (by omega)) ?_
    intro j v hj
    have hlt := (List.getElem?_eq_some_iff.1 hj).1
    rw [hl, pt_ne (by omega), pt_ne (by omega)]
    exact pts_in hj
  · intro k x hk
    by_cases hkl : k < T.length
    · rw [List.getElem?_append_left hkl] at hk
      rw [out _ (by omega) (by omega) (by omega)]
      exact h.nu k x hk
    · have hlt := (List.getElem?_eq_some_iff.1 hk).1
      simp at hlt
      have : k = T.length := by omega
      subst this
      simp at hk
      subst hk
      rw [hl, pt_ne (by omega), pt_same]
  · intro k F hk
    have hlt := (List.getElem?_eq_some_iff.1 hk).1
    simp at hlt
    have H := (h.fr k F hk).congr (f' := pt (pt (pts f (2 + 11 * σ.n) cs) (266 + σ.n) (.bool (nul r))) 290 (i64c (σ.n + 1))) (fun j hj hj' => out _ (by omega) (by omega) (by omega))
    exact ⟨H.alt.more, H.cat.more, H.atom.more, H.num, H.at'⟩

/-- What lies behind the nodes does not matter. -/
theorem PV.pre {f : Nat → Value} {p : List UInt8} {σ : RS} {T : List RE} (h : PV f p σ T) {cs : List Value} (hn : σ.n < 24) (hcl : cs.length = 11) : PV (pts f (2 + 11 * σ.n) cs) p σ T := by
  have hd := h.d5
  have hl := h.tl
  have out : ∀ j, (j < 2 + 11 * σ.n ∨ 2 + 11 * σ.n + 11 ≤ j) → pts f (2 + 11 * σ.n) cs j = f j := fun j h3 => pts_out (by omega)
  refine ⟨by rw [out _ (by omega)]; exact h.p0, by rw [out _ (by omega)]; exact h.i1, by rw [out _ (by omega)]; exact h.n, hl, h.n24, h.ar.congr (fun j hj _ => out _ (by omega)), ?_, ?_, by rw [out _ (by omega)]; exact h.dp, h.d5, by rw [out _ (by omega)]; exact h.g, h.g3, by rw [out _ (by omega)]; exact h.er, h.il, h.pl⟩
  · intro k x hk
    rw [out _ (by omega)]
    exact h.nu k x hk
  · intro k F hk
    exact (h.fr k F hk).congr (fun j hj hj' => out _ (by omega))

/-- An error is told. -/
def ERR (f : Nat → Value) (e : Er) : Prop := f 323 = i64c e.1 ∧ f 324 = i64c e.2 ∧ ∃ k : Nat, k ≤ 200 ∧ f 1 = i64c k

theorem err97 {f : Nat → Value} {p : List UInt8} {σ : RS} {T : List RE} (V : PV f p σ T) {e pos : Nat} : ERR (pt (pt f 323 (i64c e)) 324 (i64c pos)) (e, pos) :=
  ⟨pt_ne (by omega), pt_same, σ.i, by have := V.il; have := V.pl; omega, by rw [pt_ne (by omega), pt_ne (by omega)]; exact V.i1⟩

theorem fail97 {w : World} {xb : Nat} {f : Nat → Value} {e pos : Nat} (hB : FB w.heap xb 325 f 96) : Ret Tryz.prog 97 [ptr xb, i64c e, i64c pos] w (fun r w' => r = .tuple #[] ∧ FB w'.heap xb 325 (pt (pt f 323 (i64c e)) 324 (i64c pos)) 96 ∧ Fram (one xb) w w') := by
  have hF : Fram (one xb) w w := Fram.refl _ _
  refine ret_of Tryz.func97 rfl Tryz.ntmps97 rfl ?_
  refine c_seq (fun K1 hK1 => ?_)
  refine c_reg ?_ -- region 0 syn.go:36
  refine wl (ro_move rfl) ?_
  refine wl (ro_move rfl) ?_
  refine wl (ro_nilCheck rfl) ?_
  refine wl (ro_fieldAddr (k := 323) rfl fo_96_8) ?_
  refine wl_put rfl rfl rfl sz_53 hB ((by rw [cel_len]; omega)) (cel_set) (fun w1 hB F1 => ?_)
  replace hF := hF.thenDrew.thenO F1 (by first | exact .inr (by omega) | exact .inl rfl | exact .inl (by assumption))
  refine wl_nil (x_then (hK1 _ _ ?_))
  clear hK1 K1
  refine c_reg ?_ -- region 1 syn.go:37
  refine wl (ro_move rfl) ?_
  refine wl (ro_move rfl) ?_
  refine wl (ro_nilCheck rfl) ?_
  refine wl (ro_fieldAddr (k := 324) rfl fo_96_9) ?_
  refine wl_put rfl rfl rfl sz_3 hB ((by rw [cel_len]; omega)) (cel_set) (fun w2 hB F2 => ?_)
  replace hF := hF.thenDrew.thenO F2 (by first | exact .inr (by omega) | exact .inl rfl | exact .inl (by assumption))
  refine wl_nil ?_
  refine bp_end Tryz.results97 rfl ?_
  exact ⟨rfl, hB, hF⟩

theorem nullOf143 {w : World} {xb : Nat} {f : Nat → Value} {p : List UInt8} {σ : RS} {T : List RE} {r : RE} {cs : List Value} (hB : FB w.heap xb 325 f 96) (V : PV f p σ T) (hN : ND T σ.n r cs) :
    Ret Tryz.prog 143 [ptr xb, .agg cs.toArray] w (fun v w' => v = .bool (nul r) ∧ Fram none' w w') := by
  have hF : Fram none' w w := Fram.refl _ _
  have hn24 := V.n24
  have hnu : ∀ (k : Nat) (x : RE), k < σ.n → T[k]? = some x → (cel 325 f)[266 + k * 1]? = some (.bool (nul x)) := fun k x hk hx => cel_get' (by omega) (by rw [Nat.mul_one]; exact V.nu k x hx)
  cases r with
  | skip =>
    cases hN
    refine ret_of Tryz.func143 rfl Tryz.ntmps143 rfl ?_
    refine c_seq (fun K1 hK1 => ?_)
    refine c_reg ?_ -- region 0 syn.go:41
    refine wl_box rfl rfl (fun ab w1 hbab hA F1 => ?_)
    have hbsab := Nat.le_trans hF.size hbab
    have hnexbab : xb < ab := Nat.lt_of_lt_of_le hB.lt hbab
    replace hF := hF.thenDrew.thenN F1
    replace hB := F1.blkN hB
    refine wl (ro_assign rfl) ?_
    refine wl_nil (x_then (hK1 _ _ ?_))
    clear hK1 K1
    refine c_seq (fun K2 hK2 => ?_)
    refine c_seq (fun K3 hK3 => ?_)
    refine c_reg ?_ -- region 1 syn.go:42
    refine wl (ro_fieldAddr (k := 0) rfl fo_89_0) ?_
    refine wl (ro_loadB rfl sc_3 (by assumption) rfl) ?_
    refine wl_nil (x_then (hK3 _ _ ?_))
    clear hK3 K3
    refine c_block ?_
    refine forget [(0, _), (3, _), (6, _)] ⟨rfl, rfl, rfl, trivial⟩ (fun e => ?_)
    refine c_seq (fun K4 hK4 => ?_)
    refine c_reg ?_ -- region 2 syn.go:43
    refine wl (ro_cmp rfl rfl rfl) ?_
    refine wl (ro_assign rfl) ?_
    refine wl_nil (x_then (hK4 _ _ ?_))
    clear hK4 K4
    refine wc_condF rfl ?_
    refine c_seq (fun K5 hK5 => ?_)
    refine c_reg ?_ -- region 4 syn.go:45
    refine wl (ro_cmp rfl rfl rfl) ?_
    refine wl (ro_assign rfl) ?_
    refine wl_nil (x_then (hK5 _ _ ?_))
    clear hK5 K5
    refine wc_condF rfl ?_
    refine c_seq (fun K6 hK6 => ?_)
    refine c_reg ?_ -- region 6 syn.go:47
    refine wl (ro_cmp rfl rfl rfl) ?_
    refine wl (ro_assign rfl) ?_
    refine wl_nil (x_then (hK6 _ _ ?_))
    clear hK6 K6
    refine wc_condF rfl ?_
    refine c_seq (fun K7 hK7 => ?_)
    refine c_reg ?_ -- region 8 syn.go:49
    refine wl (ro_cmp rfl rfl rfl) ?_
    refine wl (ro_assign rfl) ?_
    refine wl_nil (x_then (hK7 _ _ ?_))
    clear hK7 K7
    refine wc_condF rfl ?_
    refine c_seq (fun K8 hK8 => ?_)
    refine c_reg ?_ -- region 10 syn.go:51
    refine wl (ro_cmp rfl rfl rfl) ?_
    refine wl (ro_assign rfl) ?_
    refine wl_nil (x_then (hK8 _ _ ?_))
    clear hK8 K8
    refine wc_condF rfl ?_
    refine c_skip (x_blk (x_then (hK2 _ _ ?_)))
    clear hK2 K2
    refine forget [] trivial (fun e => ?_)
    refine c_seq (fun K9 hK9 => ?_)
    refine c_reg ?_ -- region 12 syn.go:54
    refine wl (ro_assign rfl) ?_
    refine wl_nil (x_then (hK9 _ _ ?_))
    clear hK9 K9
    refine c_ret ?_
    refine bp_ret Tryz.results143 rfl ?_
    exact ⟨rfl, hF⟩
  | ret =>
    cases hN
    refine ret_of Tryz.func143 rfl Tryz.ntmps143 rfl ?_
    refine c_seq (fun K1 hK1 => ?_)
    refine c_reg ?_ -- region 0 syn.go:41
    refine wl_box rfl rfl (fun ab w1 hbab hA F1 => ?_)
    have hbsab := Nat.le_trans hF.size hbab
    have hnexbab : xb < ab := Nat.lt_of_lt_of_le hB.lt hbab
    replace hF := hF.thenDrew.thenN F1
    replace hB := F1.blkN hB
    refine wl (ro_assign rfl) ?_
    refine wl_nil (x_then (hK1 _ _ ?_))
    clear hK1 K1
    refine c_seq (fun K2 hK2 => ?_)
    refine c_seq (fun K3 hK3 => ?_)
    refine c_reg ?_ -- region 1 syn.go:42
    refine wl (ro_fieldAddr (k := 0) rfl fo_89_0) ?_
    refine wl (ro_loadB rfl sc_3 (by assumption) rfl) ?_
    refine wl_nil (x_then (hK3 _ _ ?_))
    clear hK3 K3
    refine c_block ?_
    refine forget [(0, _), (3, _), (6, _)] ⟨rfl, rfl, rfl, trivial⟩ (fun e => ?_)
    refine c_seq (fun K4 hK4 => ?_)
    refine c_reg ?_ -- region 2 syn.go:43
    refine wl (ro_cmp rfl rfl rfl) ?_
    refine wl (ro_assign rfl) ?_
    refine wl_nil (x_then (hK4 _ _ ?_))
    clear hK4 K4
    refine wc_condF rfl ?_
    refine c_seq (fun K5 hK5 => ?_)
    refine c_reg ?_ -- region 4 syn.go:45
    refine wl (ro_cmp rfl rfl rfl) ?_
    refine wl (ro_assign rfl) ?_
    refine wl_nil (x_then (hK5 _ _ ?_))
    clear hK5 K5
    refine wc_condF rfl ?_
    refine c_seq (fun K6 hK6 => ?_)
    refine c_reg ?_ -- region 6 syn.go:47
    refine wl (ro_cmp rfl rfl rfl) ?_
    refine wl (ro_assign rfl) ?_
    refine wl_nil (x_then (hK6 _ _ ?_))
    clear hK6 K6
    refine wc_condF rfl ?_
    refine c_seq (fun K7 hK7 => ?_)
    refine c_reg ?_ -- region 8 syn.go:49
    refine wl (ro_cmp rfl rfl rfl) ?_
    refine wl (ro_assign rfl) ?_
    refine wl_nil (x_then (hK7 _ _ ?_))
    clear hK7 K7
    refine wc_condF rfl ?_
    refine c_seq (fun K8 hK8 => ?_)
    refine c_reg ?_ -- region 10 syn.go:51
    refine wl (ro_cmp rfl rfl rfl) ?_
    refine wl (ro_assign rfl) ?_
    refine wl_nil (x_then (hK8 _ _ ?_))
    clear hK8 K8
    refine wc_condF rfl ?_
    refine c_skip (x_blk (x_then (hK2 _ _ ?_)))
    clear hK2 K2
    refine forget [] trivial (fun e => ?_)
    refine c_seq (fun K9 hK9 => ?_)
    refine c_reg ?_ -- region 12 syn.go:54
    refine wl (ro_assign rfl) ?_
    refine wl_nil (x_then (hK9 _ _ ?_))
    clear hK9 K9
    refine c_ret ?_
    refine bp_ret Tryz.results143 rfl ?_
    exact ⟨rfl, hF⟩
  | label l =>
    cases hN
    refine ret_of Tryz.func143 rfl Tryz.ntmps143 rfl ?_
    refine c_seq (fun K1 hK1 => ?_)
    refine c_reg ?_ -- region 0 syn.go:41
    refine wl_box rfl rfl (fun ab w1 hbab hA F1 => ?_)
    have hbsab := Nat.le_trans hF.size hbab
    have hnexbab : xb < ab := Nat.lt_of_lt_of_le hB.lt hbab
    replace hF := hF.thenDrew.thenN F1
    replace hB := F1.blkN hB
    refine wl (ro_assign rfl) ?_
    refine wl_nil (x_then (hK1 _ _ ?_))
    clear hK1 K1
    refine c_seq (fun K2 hK2 => ?_)
    refine c_seq (fun K3 hK3 => ?_)
    refine c_reg ?_ -- region 1 syn.go:42
    refine wl (ro_fieldAddr (k := 0) rfl fo_89_0) ?_
    refine wl (ro_loadB rfl sc_3 (by assumption) rfl) ?_
    refine wl_nil (x_then (hK3 _ _ ?_))
    clear hK3 K3
    refine c_block ?_
    refine forget [(0, _), (3, _), (6, _)] ⟨rfl, rfl, rfl, trivial⟩ (fun e => ?_)
    refine c_seq (fun K4 hK4 => ?_)
    refine c_reg ?_ -- region 2 syn.go:43
    refine wl (ro_cmp rfl rfl rfl) ?_
    refine wl (ro_assign rfl) ?_
    refine wl_nil (x_then (hK4 _ _ ?_))
    clear hK4 K4
    refine wc_condF rfl ?_
    refine c_seq (fun K5 hK5 => ?_)
    refine c_reg ?_ -- region 4 syn.go:45
    refine wl (ro_cmp rfl rfl rfl) ?_
    refine wl (ro_assign rfl) ?_
    refine wl_nil (x_then (hK5 _ _ ?_))
    clear hK5 K5
    refine wc_condF rfl ?_
    refine c_seq (fun K6 hK6 => ?_)
    refine c_reg ?_ -- region 6 syn.go:47
    refine wl (ro_cmp rfl rfl rfl) ?_
    refine wl (ro_assign rfl) ?_
    refine wl_nil (x_then (hK6 _ _ ?_))
    clear hK6 K6
    refine wc_condF rfl ?_
    refine c_seq (fun K7 hK7 => ?_)
    refine c_reg ?_ -- region 8 syn.go:49
    refine wl (ro_cmp rfl rfl rfl) ?_
    refine wl (ro_assign rfl) ?_
    refine wl_nil (x_then (hK7 _ _ ?_))
    clear hK7 K7
    refine wc_condF rfl ?_
    refine c_seq (fun K8 hK8 => ?_)
    refine c_reg ?_ -- region 10 syn.go:51
    refine wl (ro_cmp rfl rfl rfl) ?_
    refine wl (ro_assign rfl) ?_
    refine wl_nil (x_then (hK8 _ _ ?_))
    clear hK8 K8
    refine wc_condF rfl ?_
    refine c_skip (x_blk (x_then (hK2 _ _ ?_)))
    clear hK2 K2
    refine forget [] trivial (fun e => ?_)
    refine c_seq (fun K9 hK9 => ?_)
    refine c_reg ?_ -- region 12 syn.go:54
    refine wl (ro_assign rfl) ?_
    refine wl_nil (x_then (hK9 _ _ ?_))
    clear hK9 K9
    refine c_ret ?_
    refine bp_ret Tryz.results143 rfl ?_
    exact ⟨rfl, hF⟩
  | goto S =>
    cases hN
    refine ret_of Tryz.func143 rfl Tryz.ntmps143 rfl ?_
    refine c_seq (fun K1 hK1 => ?_)
    refine c_reg ?_ -- region 0 syn.go:41
    refine wl_box rfl rfl (fun ab w1 hbab hA F1 => ?_)
    have hbsab := Nat.le_trans hF.size hbab
    have hnexbab : xb < ab := Nat.lt_of_lt_of_le hB.lt hbab
    replace hF := hF.thenDrew.thenN F1
    replace hB := F1.blkN hB
    refine wl (ro_assign rfl) ?_
    refine wl_nil (x_then (hK1 _ _ ?_))
    clear hK1 K1
    refine c_seq (fun K2 hK2 => ?_)
    refine c_seq (fun K3 hK3 => ?_)
    refine c_reg ?_ -- region 1 syn.go:42
    refine wl (ro_fieldAddr (k := 0) rfl fo_89_0) ?_
    refine wl (ro_loadB rfl sc_3 (by assumption) rfl) ?_
    refine wl_nil (x_then (hK3 _ _ ?_))
    clear hK3 K3
    refine c_block ?_
    refine forget [(0, _), (3, _), (6, _)] ⟨rfl, rfl, rfl, trivial⟩ (fun e => ?_)
    refine c_seq (fun K4 hK4 => ?_)
    refine c_reg ?_ -- region 2 syn.go:43
    refine wl (ro_cmp rfl rfl rfl) ?_
    refine wl (ro_assign rfl) ?_
    refine wl_nil (x_then (hK4 _ _ ?_))
    clear hK4 K4
    refine wc_condT rfl ?_
    refine c_seq (fun K5 hK5 => ?_)
    refine c_reg ?_ -- region 3 syn.go:44
    refine wl (ro_assign rfl) ?_
    refine wl_nil (x_then (hK5 _ _ ?_))
    clear hK5 K5
    refine c_ret (x_blkR (x_thenR ?_))
    refine bp_ret Tryz.results143 rfl ?_
    exact ⟨rfl, hF⟩
  | seq a b =>
    obtain ⟨i, j, hi, hj, hia, hjb, rfl⟩ := hN
    have h1 := hnu i a hi hia
    have h2 := hnu j b hj hjb
    cases hna : nul a with
    | true =>
      rw [hna] at h1
      refine ret_of Tryz.func143 rfl Tryz.ntmps143 rfl ?_
      refine c_seq (fun K1 hK1 => ?_)
      refine c_reg ?_ -- region 0 syn.go:41
      refine wl_box rfl rfl (fun ab w1 hbab hA F1 => ?_)
      have hbsab := Nat.le_trans hF.size hbab
      have hnexbab : xb < ab := Nat.lt_of_lt_of_le hB.lt hbab
      replace hF := hF.thenDrew.thenN F1
      replace hB := F1.blkN hB
      refine wl (ro_assign rfl) ?_
      refine wl_nil (x_then (hK1 _ _ ?_))
      clear hK1 K1
      refine c_seq (fun K2 hK2 => ?_)
      refine c_seq (fun K3 hK3 => ?_)
      refine c_reg ?_ -- region 1 syn.go:42
      refine wl (ro_fieldAddr (k := 0) rfl fo_89_0) ?_
      refine wl (ro_loadB rfl sc_3 (by assumption) rfl) ?_
      refine wl_nil (x_then (hK3 _ _ ?_))
      clear hK3 K3
      refine c_block ?_
      refine forget [(0, _), (3, _), (6, _)] ⟨rfl, rfl, rfl, trivial⟩ (fun e => ?_)
      refine c_seq (fun K4 hK4 => ?_)
      refine c_reg ?_ -- region 2 syn.go:43
      refine wl (ro_cmp rfl rfl rfl) ?_
      refine wl (ro_assign rfl) ?_
      refine wl_nil (x_then (hK4 _ _ ?_))
      clear hK4 K4
      refine wc_condF rfl ?_
      refine c_seq (fun K5 hK5 => ?_)
      refine c_reg ?_ -- region 4 syn.go:45
      refine wl (ro_cmp rfl rfl rfl) ?_
      refine wl (ro_assign rfl) ?_
      refine wl_nil (x_then (hK5 _ _ ?_))
      clear hK5 K5
      refine wc_condT rfl ?_
      refine c_seq (fun K6 hK6 => ?_)
      refine c_pi [(0, false), (1, false), (2, false), (3, false), (4, false), (5, false), (6, false), (7, false), (8, false), (9, false), (10, false), (11, false), (12, false), (13, false), (14, false), (15, false), (16, false)] (SameH _) mixed (by kernel_rfl) rfl (by kernel_rfl) (po_then (po_blk (po_then (po_bp)))) (sameH_now _ _) ?_ -- region 5 syn.go:46
      refine pi_ro rfl (fun w hS => ro_move rfl) ?_
      refine pi_ro rfl (fun w hS => ro_fieldAddr (k := 1) rfl fo_89_1) ?_
      refine pi_ro rfl (fun w hS => ro_loadB rfl sc_3 (Blk.of_heap hA hS) (rfl)) ?_
      refine pi_ro rfl (fun w hS => ro_nilCheck rfl) ?_
      refine pi_ro rfl (fun w hS => ro_fieldAddr (k := 266) rfl fo_96_3) ?_
      refine pi_ro rfl (fun w hS => ro_indexAddrA (et := 4) (k := 1) rfl rfl ar_91 (rfl) ((by omega : i < 24))) ?_
      refine pi_ro rfl (fun w hS => ro_loadB rfl sc_4 (Blk.of_heap hB hS) (h1)) ?_
      refine pi_ro rfl (fun w hS => ro_move rfl) ?_
      refine pi_gyes rfl rfl (fun w hS => ro_move rfl) ?_
      refine pi_gyes rfl rfl (fun w hS => ro_fieldAddr (k := 2) rfl fo_89_2) ?_
      refine pi_gyes rfl rfl (fun w hS => ro_loadB rfl sc_3 (Blk.of_heap hA hS) (rfl)) ?_
      refine pi_gyes rfl rfl (fun w hS => ro_nilCheck rfl) ?_
      refine pi_gyes rfl rfl (fun w hS => ro_fieldAddr (k := 266) rfl fo_96_3) ?_
      refine pi_gyes rfl rfl (fun w hS => ro_indexAddrA (et := 4) (k := 1) rfl rfl ar_91 (rfl) ((by omega : j < 24))) ?_
      refine pi_gyes rfl rfl (fun w hS => ro_loadB rfl sc_4 (Blk.of_heap hB hS) (h2)) ?_
      refine pi_ro rfl (fun w hS => ro_pick rfl rfl rfl) ?_
      refine pi_ro rfl (fun w hS => ro_assign rfl) ?_
      refine pi_nil (x_then (hK6 _ _ ?_))
      clear hK6 K6
      refine c_ret (x_blkR (x_thenR ?_))
      refine bp_ret Tryz.results143 rfl ?_
      exact ⟨by simp [nul, hna], hF.thenDrew⟩
    | false =>
      rw [hna] at h1
      refine ret_of Tryz.func143 rfl Tryz.ntmps143 rfl ?_
      refine c_seq (fun K1 hK1 => ?_)
      refine c_reg ?_ -- region 0 syn.go:41
      refine wl_box rfl rfl (fun ab w1 hbab hA F1 => ?_)
      have hbsab := Nat.le_trans hF.size hbab
      have hnexbab : xb < ab := Nat.lt_of_lt_of_le hB.lt hbab
      replace hF := hF.thenDrew.thenN F1
      replace hB := F1.blkN hB
      refine wl (ro_assign rfl) ?_
      refine wl_nil (x_then (hK1 _ _ ?_))
      clear hK1 K1
      refine c_seq (fun K2 hK2 => ?_)
      refine c_seq (fun K3 hK3 => ?_)
      refine c_reg ?_ -- region 1 syn.go:42
      refine wl (ro_fieldAddr (k := 0) rfl fo_89_0) ?_
      refine wl (ro_loadB rfl sc_3 (by assumption) rfl) ?_
      refine wl_nil (x_then (hK3 _ _ ?_))
      clear hK3 K3
      refine c_block ?_
      refine forget [(0, _), (3, _), (6, _)] ⟨rfl, rfl, rfl, trivial⟩ (fun e => ?_)
      refine c_seq (fun K4 hK4 => ?_)
      refine c_reg ?_ -- region 2 syn.go:43
      refine wl (ro_cmp rfl rfl rfl) ?_
      refine wl (ro_assign rfl) ?_
      refine wl_nil (x_then (hK4 _ _ ?_))
      clear hK4 K4
      refine wc_condF rfl ?_
      refine c_seq (fun K5 hK5 => ?_)
      refine c_reg ?_ -- region 4 syn.go:45
      refine wl (ro_cmp rfl rfl rfl) ?_
      refine wl (ro_assign rfl) ?_
      refine wl_nil (x_then (hK5 _ _ ?_))
      clear hK5 K5
      refine wc_condT rfl ?_
      refine c_seq (fun K6 hK6 => ?_)
      refine c_pi [(0, false), (1, false), (2, false), (3, false), (4, false), (5, false), (6, false), (7, false), (8, false), (9, false), (10, false), (11, false), (12, false), (13, false), (14, false), (15, false), (16, false)] (SameH _) mixed (by kernel_rfl) rfl (by kernel_rfl) (po_then (po_blk (po_then (po_bp)))) (sameH_now _ _) ?_ -- region 5 syn.go:46
      refine pi_ro rfl (fun w hS => ro_move rfl) ?_
      refine pi_ro rfl (fun w hS => ro_fieldAddr (k := 1) rfl fo_89_1) ?_
      refine pi_ro rfl (fun w hS => ro_loadB rfl sc_3 (Blk.of_heap hA hS) (rfl)) ?_
      refine pi_ro rfl (fun w hS => ro_nilCheck rfl) ?_
      refine pi_ro rfl (fun w hS => ro_fieldAddr (k := 266) rfl fo_96_3) ?_
      refine pi_ro rfl (fun w hS => ro_indexAddrA (et := 4) (k := 1) rfl rfl ar_91 (rfl) ((by omega : i < 24))) ?_
      refine pi_ro rfl (fun w hS => ro_loadB rfl sc_4 (Blk.of_heap hB hS) (h1)) ?_
      refine pi_ro rfl (fun w hS => ro_move rfl) ?_
      refine pi_gno rfl rfl ?_
      refine pi_gno rfl rfl ?_
      refine pi_gno rfl rfl ?_
      refine pi_gno rfl rfl ?_
      refine pi_gno rfl rfl ?_
      refine pi_gno rfl rfl ?_
      refine pi_gno rfl rfl ?_
      refine pi_ro rfl (fun w hS => ro_pick rfl rfl rfl) ?_
      refine pi_ro rfl (fun w hS => ro_assign rfl) ?_
      refine pi_nil (x_then (hK6 _ _ ?_))
      clear hK6 K6
      refine c_ret (x_blkR (x_thenR ?_))
      refine bp_ret Tryz.results143 rfl ?_
      exact ⟨by simp [nul, hna], hF.thenDrew⟩
  | cond c a b =>
    obtain ⟨i, j, hi, hj, hia, hjb, rfl⟩ := hN
    have h1 := hnu i a hi hia
    have h2 := hnu j b hj hjb
    cases hna : nul a with
    | false =>
      rw [hna] at h1
      refine ret_of Tryz.func143 rfl Tryz.ntmps143 rfl ?_
      refine c_seq (fun K1 hK1 => ?_)
      refine c_reg ?_ -- region 0 syn.go:41
      refine wl_box rfl rfl (fun ab w1 hbab hA F1 => ?_)
      have hbsab := Nat.le_trans hF.size hbab
      have hnexbab : xb < ab := Nat.lt_of_lt_of_le hB.lt hbab
      replace hF := hF.thenDrew.thenN F1
      replace hB := F1.blkN hB
      refine wl (ro_assign rfl) ?_
      refine wl_nil (x_then (hK1 _ _ ?_))
      clear hK1 K1
      refine c_seq (fun K2 hK2 => ?_)
      refine c_seq (fun K3 hK3 => ?_)
      refine c_reg ?_ -- region 1 syn.go:42
      refine wl (ro_fieldAddr (k := 0) rfl fo_89_0) ?_
      refine wl (ro_loadB rfl sc_3 (by assumption) rfl) ?_
      refine wl_nil (x_then (hK3 _ _ ?_))
      clear hK3 K3
      refine c_block ?_
      refine forget [(0, _), (3, _), (6, _)] ⟨rfl, rfl, rfl, trivial⟩ (fun e => ?_)
      refine c_seq (fun K4 hK4 => ?_)
      refine c_reg ?_ -- region 2 syn.go:43
      refine wl (ro_cmp rfl rfl rfl) ?_
      refine wl (ro_assign rfl) ?_
      refine wl_nil (x_then (hK4 _ _ ?_))
      clear hK4 K4
      refine wc_condF rfl ?_
      refine c_seq (fun K5 hK5 => ?_)
      refine c_reg ?_ -- region 4 syn.go:45
      refine wl (ro_cmp rfl rfl rfl) ?_
      refine wl (ro_assign rfl) ?_
      refine wl_nil (x_then (hK5 _ _ ?_))
      clear hK5 K5
      refine wc_condF rfl ?_
      refine c_seq (fun K6 hK6 => ?_)
      refine c_reg ?_ -- region 6 syn.go:47
      refine wl (ro_cmp rfl rfl rfl) ?_
      refine wl (ro_assign rfl) ?_
      refine wl_nil (x_then (hK6 _ _ ?_))
      clear hK6 K6
      refine wc_condT rfl ?_
      refine c_seq (fun K7 hK7 => ?_)
      refine c_pi [(0, false), (1, false), (2, false), (3, false), (4, false), (5, false), (6, false), (7, false), (8, false), (9, false), (10, false), (11, false), (12, false), (13, false), (14, false), (15, false), (16, false)] (SameH _) mixed (by kernel_rfl) rfl (by kernel_rfl) (po_then (po_blk (po_then (po_bp)))) (sameH_now _ _) ?_ -- region 7 syn.go:48
      refine pi_ro rfl (fun w hS => ro_move rfl) ?_
      refine pi_ro rfl (fun w hS => ro_fieldAddr (k := 1) rfl fo_89_1) ?_
      refine pi_ro rfl (fun w hS => ro_loadB rfl sc_3 (Blk.of_heap hA hS) (rfl)) ?_
      refine pi_ro rfl (fun w hS => ro_nilCheck rfl) ?_
      refine pi_ro rfl (fun w hS => ro_fieldAddr (k := 266) rfl fo_96_3) ?_
      refine pi_ro rfl (fun w hS => ro_indexAddrA (et := 4) (k := 1) rfl rfl ar_91 (rfl) ((by omega : i < 24))) ?_
      refine pi_ro rfl (fun w hS => ro_loadB rfl sc_4 (Blk.of_heap hB hS) (h1)) ?_
      refine pi_ro rfl (fun w hS => ro_move rfl) ?_
      refine pi_gyes rfl rfl (fun w hS => ro_move rfl) ?_
      refine pi_gyes rfl rfl (fun w hS => ro_fieldAddr (k := 2) rfl fo_89_2) ?_
      refine pi_gyes rfl rfl (fun w hS => ro_loadB rfl sc_3 (Blk.of_heap hA hS) (rfl)) ?_
      refine pi_gyes rfl rfl (fun w hS => ro_nilCheck rfl) ?_
      refine pi_gyes rfl rfl (fun w hS => ro_fieldAddr (k := 266) rfl fo_96_3) ?_
      refine pi_gyes rfl rfl (fun w hS => ro_indexAddrA (et := 4) (k := 1) rfl rfl ar_91 (rfl) ((by omega : j < 24))) ?_
      refine pi_gyes rfl rfl (fun w hS => ro_loadB rfl sc_4 (Blk.of_heap hB hS) (h2)) ?_
      refine pi_ro rfl (fun w hS => ro_pick rfl rfl rfl) ?_
      refine pi_ro rfl (fun w hS => ro_assign rfl) ?_
      refine pi_nil (x_then (hK7 _ _ ?_))
      clear hK7 K7
      refine c_ret (x_blkR (x_thenR ?_))
      refine bp_ret Tryz.results143 rfl ?_
      exact ⟨by simp [nul, hna], hF.thenDrew⟩
    | true =>
      rw [hna] at h1
      refine ret_of Tryz.func143 rfl Tryz.ntmps143 rfl ?_
      refine c_seq (fun K1 hK1 => ?_)
      refine c_reg ?_ -- region 0 syn.go:41
      refine wl_box rfl rfl (fun ab w1 hbab hA F1 => ?_)
      have hbsab := Nat.le_trans hF.size hbab
      have hnexbab : xb < ab := Nat.lt_of_lt_of_le hB.lt hbab
      replace hF := hF.thenDrew.thenN F1
      replace hB := F1.blkN hB
      refine wl (ro_assign rfl) ?_
      refine wl_nil (x_then (hK1 _ _ ?_))
      clear hK1 K1
      refine c_seq (fun K2 hK2 => ?_)
      refine c_seq (fun K3 hK3 => ?_)
      refine c_reg ?_ -- region 1 syn.go:42
      refine wl (ro_fieldAddr (k := 0) rfl fo_89_0) ?_
      refine wl (ro_loadB rfl sc_3 (by assumption) rfl) ?_
      refine wl_nil (x_then (hK3 _ _ ?_))
      clear hK3 K3
      refine c_block ?_
      refine forget [(0, _), (3, _), (6, _)] ⟨rfl, rfl, rfl, trivial⟩ (fun e => ?_)
      refine c_seq (fun K4 hK4 => ?_)
      refine c_reg ?_ -- region 2 syn.go:43
      refine wl (ro_cmp rfl rfl rfl) ?_
      refine wl (ro_assign rfl) ?_
      refine wl_nil (x_then (hK4 _ _ ?_))
      clear hK4 K4
      refine wc_condF rfl ?_
      refine c_seq (fun K5 hK5 => ?_)
      refine c_reg ?_ -- region 4 syn.go:45
      refine wl (ro_cmp rfl rfl rfl) ?_
      refine wl (ro_assign rfl) ?_
      refine wl_nil (x_then (hK5 _ _ ?_))
      clear hK5 K5
      refine wc_condF rfl ?_
      refine c_seq (fun K6 hK6 => ?_)
      refine c_reg ?_ -- region 6 syn.go:47
      refine wl (ro_cmp rfl rfl rfl) ?_
      refine wl (ro_assign rfl) ?_
      refine wl_nil (x_then (hK6 _ _ ?_))
      clear hK6 K6
      refine wc_condT rfl ?_
      refine c_seq (fun K7 hK7 => ?_)
      refine c_pi [(0, false), (1, false), (2, false), (3, false), (4, false), (5, false), (6, false), (7, false), (8, false), (9, false), (10, false), (11, false), (12, false), (13, false), (14, false), (15, false), (16, false)] (SameH _) mixed (by kernel_rfl) rfl (by kernel_rfl) (po_then (po_blk (po_then (po_bp)))) (sameH_now _ _) ?_ -- region 7 syn.go:48
      refine pi_ro rfl (fun w hS => ro_move rfl) ?_
      refine pi_ro rfl (fun w hS => ro_fieldAddr (k := 1) rfl fo_89_1) ?_
      refine pi_ro rfl (fun w hS => ro_loadB rfl sc_3 (Blk.of_heap hA hS) (rfl)) ?_
      refine pi_ro rfl (fun w hS => ro_nilCheck rfl) ?_
      refine pi_ro rfl (fun w hS => ro_fieldAddr (k := 266) rfl fo_96_3) ?_
      refine pi_ro rfl (fun w hS => ro_indexAddrA (et := 4) (k := 1) rfl rfl ar_91 (rfl) ((by omega : i < 24))) ?_
      refine pi_ro rfl (fun w hS => ro_loadB rfl sc_4 (Blk.of_heap hB hS) (h1)) ?_
      refine pi_ro rfl (fun w hS => ro_move rfl) ?_
      refine pi_gno rfl rfl ?_
      refine pi_gno rfl rfl ?_
      refine pi_gno rfl rfl ?_
      refine pi_gno rfl rfl ?_
      refine pi_gno rfl rfl ?_
      refine pi_gno rfl rfl ?_
      refine pi_gno rfl rfl ?_
      refine pi_ro rfl (fun w hS => ro_pick rfl rfl rfl) ?_
      refine pi_ro rfl (fun w hS => ro_assign rfl) ?_
      refine pi_nil (x_then (hK7 _ _ ?_))
      clear hK7 K7
      refine c_ret (x_blkR (x_thenR ?_))
      refine bp_ret Tryz.results143 rfl ?_
      exact ⟨by simp [nul, hna], hF.thenDrew⟩
  | rangeFunc ff ps x a =>
    obtain ⟨i, hi, hia, hcn, rfl⟩ := hN
    have h1 := hnu i a hi hia
    by_cases hm : rmn x = 0
    · have hcmp : ((rmn x : Int) == 0) = true := by simp [hm]
      refine ret_of Tryz.func143 rfl Tryz.ntmps143 rfl ?_
      refine c_seq (fun K1 hK1 => ?_)
      refine c_reg ?_ -- region 0 syn.go:41
      refine wl_box rfl rfl (fun ab w1 hbab hA F1 => ?_)
      have hbsab := Nat.le_trans hF.size hbab
      have hnexbab : xb < ab := Nat.lt_of_lt_of_le hB.lt hbab
      replace hF := hF.thenDrew.thenN F1
      replace hB := F1.blkN hB
      refine wl (ro_assign rfl) ?_
      refine wl_nil (x_then (hK1 _ _ ?_))
      clear hK1 K1
      refine c_seq (fun K2 hK2 => ?_)
      refine c_seq (fun K3 hK3 => ?_)
      refine c_reg ?_ -- region 1 syn.go:42
      refine wl (ro_fieldAddr (k := 0) rfl fo_89_0) ?_
      refine wl (ro_loadB rfl sc_3 (by assumption) rfl) ?_
      refine wl_nil (x_then (hK3 _ _ ?_))
      clear hK3 K3
      refine c_block ?_
      refine forget [(0, _), (3, _), (6, _)] ⟨rfl, rfl, rfl, trivial⟩ (fun e => ?_)
      refine c_seq (fun K4 hK4 => ?_)
      refine c_reg ?_ -- region 2 syn.go:43
      refine wl (ro_cmp rfl rfl rfl) ?_
      refine wl (ro_assign rfl) ?_
      refine wl_nil (x_then (hK4 _ _ ?_))
      clear hK4 K4
      refine wc_condF rfl ?_
      refine c_seq (fun K5 hK5 => ?_)
      refine c_reg ?_ -- region 4 syn.go:45
      refine wl (ro_cmp rfl rfl rfl) ?_
      refine wl (ro_assign rfl) ?_
      refine wl_nil (x_then (hK5 _ _ ?_))
      clear hK5 K5
      refine wc_condF rfl ?_
      refine c_seq (fun K6 hK6 => ?_)
      refine c_reg ?_ -- region 6 syn.go:47
      refine wl (ro_cmp rfl rfl rfl) ?_
      refine wl (ro_assign rfl) ?_
      refine wl_nil (x_then (hK6 _ _ ?_))
      clear hK6 K6
      refine wc_condF rfl ?_
      refine c_seq (fun K7 hK7 => ?_)
      refine c_reg ?_ -- region 8 syn.go:49
      refine wl (ro_cmp rfl rfl rfl) ?_
      refine wl (ro_assign rfl) ?_
      refine wl_nil (x_then (hK7 _ _ ?_))
      clear hK7 K7
      refine wc_condT rfl ?_
      refine c_seq (fun K8 hK8 => ?_)
      refine c_pi [(0, false), (1, false), (2, false), (3, false), (4, false), (5, false), (6, false), (7, false), (8, false), (9, false), (10, false), (11, false), (12, false)] (SameH _) mixed (by kernel_rfl) rfl (by kernel_rfl) (po_then (po_blk (po_then (po_bp)))) (sameH_now _ _) ?_ -- region 9 syn.go:50
      refine pi_ro rfl (fun w hS => ro_fieldAddr (k := 3) rfl fo_89_3) ?_
      refine pi_ro rfl (fun w hS => ro_loadB rfl sc_3 (Blk.of_heap hA hS) (rfl)) ?_
      refine pi_ro rfl (fun w hS => ro_cmp (r := true) rfl rfl (congrArg some hcmp)) ?_
      refine pi_ro rfl (fun w hS => ro_move rfl) ?_
      refine pi_gno rfl rfl ?_
      refine pi_gno rfl rfl ?_
      refine pi_gno rfl rfl ?_
      refine pi_gno rfl rfl ?_
      refine pi_gno rfl rfl ?_
      refine pi_gno rfl rfl ?_
      refine pi_gno rfl rfl ?_
      refine pi_ro rfl (fun w hS => ro_pick rfl rfl rfl) ?_
      refine pi_ro rfl (fun w hS => ro_assign rfl) ?_
      refine pi_nil (x_then (hK8 _ _ ?_))
      clear hK8 K8
      refine c_ret (x_blkR (x_thenR ?_))
      refine bp_ret Tryz.results143 rfl ?_
      exact ⟨by simp [nul, hm], hF.thenDrew⟩
    · have hcmp : ((rmn x : Int) == 0) = false := by simp; omega
      refine ret_of Tryz.func143 rfl Tryz.ntmps143 rfl ?_
      refine c_seq (fun K1 hK1 => ?_)
      refine c_reg ?_ -- region 0 syn.go:41
      refine wl_box rfl rfl (fun ab w1 hbab hA F1 => ?_)
      have hbsab := Nat.le_trans hF.size hbab
      have hnexbab : xb < ab := Nat.lt_of_lt_of_le hB.lt hbab
      replace hF := hF.thenDrew.thenN F1
      replace hB := F1.blkN hB
      refine wl (ro_assign rfl) ?_
      refine wl_nil (x_then (hK1 _ _ ?_))
      clear hK1 K1
      refine c_seq (fun K2 hK2 => ?_)
      refine c_seq (fun K3 hK3 => ?_)
      refine c_reg ?_ -- region 1 syn.go:42
      refine wl (ro_fieldAddr (k := 0) rfl fo_89_0) ?_
      refine wl (ro_loadB rfl sc_3 (by assumption) rfl) ?_
      refine wl_nil (x_then (hK3 _ _ ?_))
      clear hK3 K3
      refine c_block ?_
      refine forget [(0, _), (3, _), (6, _)] ⟨rfl, rfl, rfl, trivial⟩ (fun e => ?_)
      refine c_seq (fun K4 hK4 => ?_)
      refine c_reg ?_ -- region 2 syn.go:43
      refine wl (ro_cmp rfl rfl rfl) ?_
      refine wl (ro_assign rfl) ?_
      refine wl_nil (x_then (hK4 _ _ ?_))
      clear hK4 K4
      refine wc_condF rfl ?_
      refine c_seq (fun K5 hK5 => ?_)
      refine c_reg ?_ -- region 4 syn.go:45
      refine wl (ro_cmp rfl rfl rfl) ?_
      refine wl (ro_assign rfl) ?_
      refine wl_nil (x_then (hK5 _ _ ?_))
      clear hK5 K5
      refine wc_condF rfl ?_
      refine c_seq (fun K6 hK6 => ?_)
      refine c_reg ?_ -- region 6 syn.go:47
      refine wl (ro_cmp rfl rfl rfl) ?_
      refine wl (ro_assign rfl) ?_
      refine wl_nil (x_then (hK6 _ _ ?_))
      clear hK6 K6
      refine wc_condF rfl ?_
      refine c_seq (fun K7 hK7 => ?_)
      refine c_reg ?_ -- region 8 syn.go:49
      refine wl (ro_cmp rfl rfl rfl) ?_
      refine wl (ro_assign rfl) ?_
      refine wl_nil (x_then (hK7 _ _ ?_))
      clear hK7 K7
      refine wc_condT rfl ?_
      refine c_seq (fun K8 hK8 => ?_)
      refine c_pi [(0, false), (1, false), (2, false), (3, false), (4, false), (5, false), (6, false), (7, false), (8, false), (9, false), (10, false), (11, false), (12, false)] (SameH _) mixed (by kernel_rfl) rfl (by kernel_rfl) (po_then (po_blk (po_then (po_bp)))) (sameH_now _ _) ?_ -- region 9 syn.go:50
      refine pi_ro rfl (fun w hS => ro_fieldAddr (k := 3) rfl fo_89_3) ?_
      refine pi_ro rfl (fun w hS => ro_loadB rfl sc_3 (Blk.of_heap hA hS) (rfl)) ?_
      refine pi_ro rfl (fun w hS => ro_cmp (r := false) rfl rfl (congrArg some hcmp)) ?_
      refine pi_ro rfl (fun w hS => ro_move rfl) ?_
      refine pi_gyes rfl rfl (fun w hS => ro_move rfl) ?_
      refine pi_gyes rfl rfl (fun w hS => ro_fieldAddr (k := 1) rfl fo_89_1) ?_
      refine pi_gyes rfl rfl (fun w hS => ro_loadB rfl sc_3 (Blk.of_heap hA hS) (rfl)) ?_
      refine pi_gyes rfl rfl (fun w hS => ro_nilCheck rfl) ?_
      refine pi_gyes rfl rfl (fun w hS => ro_fieldAddr (k := 266) rfl fo_96_3) ?_
      refine pi_gyes rfl rfl (fun w hS => ro_indexAddrA (et := 4) (k := 1) rfl rfl ar_91 (rfl) ((by omega : i < 24))) ?_
      refine pi_gyes rfl rfl (fun w hS => ro_loadB rfl sc_4 (Blk.of_heap hB hS) (h1)) ?_
      refine pi_ro rfl (fun w hS => ro_pick rfl rfl rfl) ?_
      refine pi_ro rfl (fun w hS => ro_assign rfl) ?_
      refine pi_nil (x_then (hK8 _ _ ?_))
      clear hK8 K8
      refine c_ret (x_blkR (x_thenR ?_))
      refine bp_ret Tryz.results143 rfl ?_
      exact ⟨by simp [nul, hm], hF.thenDrew⟩
  | block g a =>
    obtain ⟨i, hi, hia, rfl⟩ := hN
    have h1 := hnu i a hi hia
    refine ret_of Tryz.func143 rfl Tryz.ntmps143 rfl ?_
    refine c_seq (fun K1 hK1 => ?_)
    refine c_reg ?_ -- region 0 syn.go:41
    refine wl_box rfl rfl (fun ab w1 hbab hA F1 => ?_)
    have hbsab := Nat.le_trans hF.size hbab
    have hnexbab : xb < ab := Nat.lt_of_lt_of_le hB.lt hbab
    replace hF := hF.thenDrew.thenN F1
    replace hB := F1.blkN hB
    refine wl (ro_assign rfl) ?_
    refine wl_nil (x_then (hK1 _ _ ?_))
    clear hK1 K1
    refine c_seq (fun K2 hK2 => ?_)
    refine c_seq (fun K3 hK3 => ?_)
    refine c_reg ?_ -- region 1 syn.go:42
    refine wl (ro_fieldAddr (k := 0) rfl fo_89_0) ?_
    refine wl (ro_loadB rfl sc_3 (by assumption) rfl) ?_
    refine wl_nil (x_then (hK3 _ _ ?_))
    clear hK3 K3
    refine c_block ?_
    refine forget [(0, _), (3, _), (6, _)] ⟨rfl, rfl, rfl, trivial⟩ (fun e => ?_)
    refine c_seq (fun K4 hK4 => ?_)
    refine c_reg ?_ -- region 2 syn.go:43
    refine wl (ro_cmp rfl rfl rfl) ?_
    refine wl (ro_assign rfl) ?_
    refine wl_nil (x_then (hK4 _ _ ?_))
    clear hK4 K4
    refine wc_condF rfl ?_
    refine c_seq (fun K5 hK5 => ?_)
    refine c_reg ?_ -- region 4 syn.go:45
    refine wl (ro_cmp rfl rfl rfl) ?_
    refine wl (ro_assign rfl) ?_
    refine wl_nil (x_then (hK5 _ _ ?_))
    clear hK5 K5
    refine wc_condF rfl ?_
    refine c_seq (fun K6 hK6 => ?_)
    refine c_reg ?_ -- region 6 syn.go:47
    refine wl (ro_cmp rfl rfl rfl) ?_
    refine wl (ro_assign rfl) ?_
    refine wl_nil (x_then (hK6 _ _ ?_))
    clear hK6 K6
    refine wc_condF rfl ?_
    refine c_seq (fun K7 hK7 => ?_)
    refine c_reg ?_ -- region 8 syn.go:49
    refine wl (ro_cmp rfl rfl rfl) ?_
    refine wl (ro_assign rfl) ?_
    refine wl_nil (x_then (hK7 _ _ ?_))
    clear hK7 K7
    refine wc_condF rfl ?_
    refine c_seq (fun K8 hK8 => ?_)
    refine c_reg ?_ -- region 10 syn.go:51
    refine wl (ro_cmp rfl rfl rfl) ?_
    refine wl (ro_assign rfl) ?_
    refine wl_nil (x_then (hK8 _ _ ?_))
    clear hK8 K8
    refine wc_condT rfl ?_
    refine c_seq (fun K9 hK9 => ?_)
    refine c_pi [(0, false), (1, false), (2, false), (3, false), (4, false), (5, false), (6, false), (7, false)] (SameH _) mixed (by kernel_rfl) rfl (by kernel_rfl) (po_then (po_blk (po_then (po_bp)))) (sameH_now _ _) ?_ -- region 11 syn.go:52
    refine pi_ro rfl (fun w hS => ro_move rfl) ?_
    refine pi_ro rfl (fun w hS => ro_fieldAddr (k := 1) rfl fo_89_1) ?_
    refine pi_ro rfl (fun w hS => ro_loadB rfl sc_3 (Blk.of_heap hA hS) (rfl)) ?_
    refine pi_ro rfl (fun w hS => ro_nilCheck rfl) ?_
    refine pi_ro rfl (fun w hS => ro_fieldAddr (k := 266) rfl fo_96_3) ?_
    refine pi_ro rfl (fun w hS => ro_indexAddrA (et := 4) (k := 1) rfl rfl ar_91 (rfl) ((by omega : i < 24))) ?_
    refine pi_ro rfl (fun w hS => ro_loadB rfl sc_4 (Blk.of_heap hB hS) (h1)) ?_
    refine pi_ro rfl (fun w hS => ro_assign rfl) ?_
    refine pi_nil (x_then (hK9 _ _ ?_))
    clear hK9 K9
    refine c_ret (x_blkR (x_thenR ?_))
    refine bp_ret Tryz.results143 rfl ?_
    exact ⟨rfl, hF.thenDrew⟩
  | region _ _ _ => exact hN.elim
  | loop _ => exact hN.elim
  | exit _ => exact hN.elim
  | scope _ => exact hN.elim
  | refuse _ => exact hN.elim

theorem ND.cells {T : List RE} {k : Nat} {r : RE} {cs : List Value} (h : ND T k r cs) : ∀ u ∈ cs, u.oneCell' = true := by
  have key : ∀ k a b mn mx cap lz S, ∀ u ∈ ndc k a b mn mx cap lz S, u.oneCell' = true := by
    intro k a b mn mx cap lz S u hu
    simp [ndc] at hu
    rcases hu with rfl | rfl | rfl | rfl | rfl | rfl | rfl | rfl | rfl | rfl | rfl <;> rfl
  unfold ND at h
  split at h
  · obtain ⟨i, j, h1, h2, h3, h4, rfl⟩ := h; exact key _ _ _ _ _ _ _ _
  · obtain ⟨i, j, h1, h2, h3, h4, rfl⟩ := h; exact key _ _ _ _ _ _ _ _
  · obtain ⟨i, h1, h3, h4, rfl⟩ := h; exact key _ _ _ _ _ _ _ _
  · obtain ⟨i, h1, h3, rfl⟩ := h; exact key _ _ _ _ _ _ _ _
  · subst h; exact key _ _ _ _ _ _ _ _
  · subst h; exact key _ _ _ _ _ _ _ _
  · subst h; exact key _ _ _ _ _ _ _ _
  · subst h; exact key _ _ _ _ _ _ _ _
  · exact h.elim

/-- What add answers. -/
def AddP (xb : Nat) (p : List UInt8) (σ : RS) (T : List RE) (r : RE) (v : Value) (w' : World) : Prop :=
  ∃ (f' : Nat → Value) (j : Int), v = icv j ∧ FB w'.heap xb 325 f' 96 ∧ f' 321 = i64c σ.K.length ∧ ((σ.n < 24 ∧ j = σ.n ∧ PV f' p { σ with n := σ.n + 1 } (T ++ [r])) ∨ (24 ≤ σ.n ∧ j = -1 ∧ ERR f' (8, σ.i)))

theorem add130 {w : World} {xb : Nat} {f : Nat → Value} {p : List UInt8} {σ : RS} {T : List RE} {r : RE} {cs : List Value} (hB : FB w.heap xb 325 f 96) (V : PV f p σ T) (hN : ND T σ.n r cs) :
    Ret Tryz.prog 130 [ptr xb, .agg cs.toArray] w (fun v w' => AddP xb p σ T r v w' ∧ Fram (one xb) w w') := by
  have hF : Fram (one xb) w w := Fram.refl _ _
  have hcl := hN.len
  have hn24 := V.n24
  have V1 : σ.n < 24 → PV (pts f (2 + 11 * σ.n) cs) p σ T := fun h => V.pre h hcl
  by_cases h24 : 24 ≤ σ.n
  · skip
    refine ret_of Tryz.func130 rfl Tryz.ntmps130 rfl ?_
    refine c_seq (fun K1 hK1 => ?_)
    refine c_reg ?_ -- region 0 syn.go:58
    refine wl_box (cs := cs) rfl rfl (fun ab w1 hbab hA F1 => ?_)
    have hbsab := Nat.le_trans hF.size hbab
    have hnexbab : xb < ab := Nat.lt_of_lt_of_le hB.lt hbab
    replace hF := hF.thenDrew.thenN F1
    replace hB := F1.blkN hB
    refine wl (ro_assign rfl) ?_
    refine wl_nil (x_then (hK1 _ _ ?_))
    clear hK1 K1
    refine c_seq (fun K2 hK2 => ?_)
    refine c_seq (fun K3 hK3 => ?_)
    refine c_reg ?_ -- region 1 syn.go:59
    refine wl (ro_move rfl) ?_
    refine wl (ro_nilCheck rfl) ?_
    refine wl (ro_fieldAddr (k := 290) rfl fo_96_4) ?_
    refine wl (ro_loadB rfl sc_3 (hB) (cel_get' (by omega) V.n)) ?_
    refine wl (ro_cmp (r := true) rfl rfl (congrArg some (decide_eq_true (by omega)))) ?_
    refine wl_nil (x_then (hK3 _ _ ?_))
    clear hK3 K3
    refine wc_condT rfl ?_
    refine c_seq (fun K4 hK4 => ?_)
    refine c_reg ?_ -- region 2 syn.go:60
    refine wl (ro_move rfl) ?_
    refine wl (ro_move rfl) ?_
    refine wl (ro_nilCheck rfl) ?_
    refine wl (ro_fieldAddr (k := 1) rfl fo_96_1) ?_
    refine wl (ro_loadB rfl sc_3 (hB) (cel_get' (by omega) V.i1)) ?_
    refine wl_call rfl en_97 (fail97 hB) ?_
    rintro _ w9 ⟨rfl, hB, F9⟩
    replace hF := hF.trans F9
    refine wl_nil (x_then (hK4 _ _ ?_))
    clear hK4 K4
    refine forget [] trivial (fun e => ?_)
    refine c_seq (fun K5 hK5 => ?_)
    refine c_reg ?_ -- region 3 syn.go:61
    refine wl (ro_assign rfl) ?_
    refine wl_nil (x_then (hK5 _ _ ?_))
    clear hK5 K5
    refine c_ret (x_thenR ?_)
    refine bp_ret Tryz.results130 rfl ?_
    exact ⟨⟨_, -1, rfl, hB, by rw [pt_ne (by omega), pt_ne (by omega)]; exact V.dp, .inr ⟨h24, rfl, err97 V⟩⟩, hF⟩
  · have h24' : σ.n < 24 := by omega
    refine ret_of Tryz.func130 rfl Tryz.ntmps130 rfl ?_
    refine c_seq (fun K1 hK1 => ?_)
    refine c_reg ?_ -- region 0 syn.go:58
    refine wl_box (cs := cs) rfl rfl (fun ab w1 hbab hA F1 => ?_)
    have hbsab := Nat.le_trans hF.size hbab
    have hnexbab : xb < ab := Nat.lt_of_lt_of_le hB.lt hbab
    replace hF := hF.thenDrew.thenN F1
    replace hB := F1.blkN hB
    refine wl (ro_assign rfl) ?_
    refine wl_nil (x_then (hK1 _ _ ?_))
    clear hK1 K1
    refine c_seq (fun K2 hK2 => ?_)
    refine c_seq (fun K3 hK3 => ?_)
    refine c_reg ?_ -- region 1 syn.go:59
    refine wl (ro_move rfl) ?_
    refine wl (ro_nilCheck rfl) ?_
    refine wl (ro_fieldAddr (k := 290) rfl fo_96_4) ?_
    refine wl (ro_loadB rfl sc_3 (hB) (cel_get' (by omega) V.n)) ?_
    refine wl (ro_cmp (r := false) rfl rfl (congrArg some (decide_eq_false (by omega)))) ?_
    refine wl_nil (x_then (hK3 _ _ ?_))
    clear hK3 K3
    refine wc_condF rfl ?_
    refine c_skip (x_then (hK2 _ _ ?_))
    clear hK2 K2
    refine forget [(0, _), (3, _)] ⟨rfl, rfl, trivial⟩ (fun e => ?_)
    refine c_seq (fun K4 hK4 => ?_)
    refine c_reg ?_ -- region 4 syn.go:63
    refine wl (ro_move rfl) ?_
    refine wl (ro_nilCheck rfl) ?_
    refine wl (ro_fieldAddr (k := 290) rfl fo_96_4) ?_
    refine wl (ro_loadB rfl sc_3 (hB) (cel_get' (by omega) V.n)) ?_
    refine wl (ro_assign rfl) ?_
    refine wl_nil (x_then (hK4 _ _ ?_))
    clear hK4 K4
    refine forget [(0, _), (3, _), (5, _)] ⟨rfl, rfl, rfl, trivial⟩ (fun e => ?_)
    refine c_seq (fun K5 hK5 => ?_)
    refine c_piL 6 [(0, false), (1, false), (2, false), (3, false), (4, false), (5, false)] (SameH _) mixed (by kernel_rfl) rfl (by kernel_rfl) (po_then (po_bp)) (sameH_now _ _) ?_ -- region 5 syn.go:64
    refine ql_ro rfl (fun w hS => ro_move rfl) ?_
    refine ql_ro rfl (fun w hS => ro_move rfl) ?_
    refine ql_ro rfl (fun w hS => ro_loadAggB rfl ag_89 (Blk.of_heap hA hS) (hcl) ((by rw [List.drop_zero, List.take_of_length_le (by omega)]))) ?_
    refine ql_ro rfl (fun w hS => ro_nilCheck rfl) ?_
    refine ql_ro rfl (fun w hS => ro_fieldAddr (k := 2) rfl fo_96_2) ?_
    refine ql_ro rfl (fun w hS => ro_indexAddrA (et := 89) (k := 11) rfl rfl ar_90 (rfl) (h24')) ?_
    refine ql_puta rfl rfl rfl (hN.cells) sz_89 (hcl) hB ((by rw [cel_len]; omega)) ((show _ = cel 325 (pts f (2 + 11 * σ.n) cs) by rw [show 0 + 2 + σ.n * 11 = 2 + 11 * σ.n by omega]; exact cel_seg hcl (by omega))) (fun w2 hB F2 => ?_)
    replace hF := hF.thenDrew.thenO F2 (by first | exact .inr (by omega) | exact .inl rfl | exact .inl (by assumption))
    replace hA := F2.blkO hA (by omega)
    refine x_then (hK5 _ _ ?_)
    clear hK5 K5
    refine forget [(0, _), (3, _), (5, _)] ⟨rfl, rfl, rfl, trivial⟩ (fun e => ?_)
    refine c_seq (fun K6 hK6 => ?_)
    refine c_piL 8 [(0, false), (1, false), (2, false), (3, false), (5, false), (6, false), (4, true), (7, false)] (fun w' => Blk w'.heap ab cs 89) mixed (by kernel_rfl) rfl (by kernel_rfl) (po_then (po_bp)) (hA) ?_ -- region 6 syn.go:65
    refine ql_ro rfl (fun w hS => ro_move rfl) ?_
    refine ql_ro rfl (fun w hS => ro_move rfl) ?_
    refine ql_ro rfl (fun w hS => ro_move rfl) ?_
    refine ql_ro rfl (fun w hS => ro_loadAggB rfl ag_89 (hS) (hcl) ((by rw [List.drop_zero, List.take_of_length_le (by omega)]))) ?_
    refine ql_ro rfl (fun w hS => ro_nilCheck rfl) ?_
    refine ql_ro rfl (fun w hS => ro_fieldAddr (k := 266) rfl fo_96_3) ?_
    refine ql_call rfl rfl en_143 (nullOf143 (w := { w2 with drawn := w2.drawn + 1 }) hB (V1 h24') hN) ?_
    rintro _ w3 ⟨rfl, F3⟩
    replace hA := F3.blkN hA
    replace hB := F3.blkN hB
    replace hF := hF.thenDrew.thenN F3
    refine ⟨hA, ?_⟩
    refine ql_ro rfl (fun w hS => ro_indexAddrA (et := 4) (k := 1) rfl rfl ar_91 (rfl) (h24')) ?_
    refine ql_put rfl rfl rfl rfl sz_4 hB ((by rw [cel_len]; omega)) ((show _ = cel 325 (pt (pts f (2 + 11 * σ.n) cs) (266 + σ.n) (.bool (nul r))) by rw [show 0 + 266 + σ.n * 1 = 266 + σ.n by omega]; exact cel_set)) (fun w3 hB F3 => ?_)
    replace hF := hF.thenDrew.thenO F3 (by first | exact .inr (by omega) | exact .inl rfl | exact .inl (by assumption))
    replace hA := F3.blkO hA (by omega)
    refine x_then (hK6 _ _ ?_)
    clear hK6 K6
    refine forget [(0, _), (5, _)] ⟨rfl, rfl, trivial⟩ (fun e => ?_)
    refine c_seq (fun K7 hK7 => ?_)
    refine c_reg ?_ -- region 7 syn.go:66
    refine wl (ro_move rfl) ?_
    refine wl (ro_move rfl) ?_
    refine wl (ro_arith rfl rfl rfl (Go.IntWalk.i64_in _ (by omega))) ?_
    refine wl (ro_nilCheck rfl) ?_
    refine wl (ro_fieldAddr (k := 290) rfl fo_96_4) ?_
    refine wl_put rfl rfl rfl sz_3 hB ((by rw [cel_len]; omega)) (cel_set) (fun w4 hB F4 => ?_)
    replace hF := hF.thenDrew.thenO F4 (by first | exact .inr (by omega) | exact .inl rfl | exact .inl (by assumption))
    replace hA := F4.blkO hA (by omega)
    refine wl_nil (x_then (hK7 _ _ ?_))
    clear hK7 K7
    refine forget [(5, _)] ⟨rfl, trivial⟩ (fun e => ?_)
    refine c_seq (fun K8 hK8 => ?_)
    refine c_reg ?_ -- region 8 syn.go:67
    refine wl (ro_move rfl) ?_
    refine wl (ro_assign rfl) ?_
    refine wl_nil (x_then (hK8 _ _ ?_))
    clear hK8 K8
    refine c_ret ?_
    refine bp_ret Tryz.results130 rfl ?_
    exact ⟨⟨_, σ.n, rfl, hB, (V.push h24' hN).dp, .inl ⟨h24', rfl, V.push h24' hN⟩⟩, hF⟩

end Go.Proofs.Qxb6500567aGreat
