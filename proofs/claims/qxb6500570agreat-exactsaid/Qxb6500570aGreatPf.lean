import Derived.Test.Qxb6500570aGreatPe
/- Plain: the machine against the grammar: what each part of the grammar does to it. -/
namespace Go.Proofs.Qxb6500570aGreat
set_option linter.unusedVariables false
set_option linter.unusedSimpArgs false

def Rw (o : Option PS) : Option (List Nd) := match o with
  | none => none
  | some st => R st
theorem R_no (ts : List Tk) (ar : List Nd) (ov : List Nat) (os : List Mk) : R ⟨ts, ar, ov, os, false⟩ = Rw (atomP ts ar ov os) := by
  rw [R_eq]
  simp only [stepM, Bool.false_eq_true, if_false]
  cases atomP ts ar ov os <;> rfl
theorem R_ye (ts : List Tk) (ar : List Nd) (ov : List Nat) (os : List Mk) : R ⟨ts, ar, ov, os, true⟩ = RO' (after0 (tkS (hdT ts)) ts ar ov os) := by
  rw [R_eq]
  simp only [stepM, if_true]
theorem RO_map (o : Option PS) : RO' (o.map .inl) = Rw o := by cases o <;> rfl

/-- The mark on top is no sign, no '*' or '/'. -/
def calm (os : List Mk) : Prop := match os with
  | [] => True
  | m :: _ => m.k ≠ 1 ∧ (m.k = 2 → strg m.o ≠ 3)
/-- .. no '+' or '-' either. -/
def calm2 (os : List Mk) : Prop := match os with
  | [] => True
  | m :: _ => m.k ≠ 1 ∧ (m.k = 2 → strg m.o = 1)
/-- .. no operator at all. -/
def calm1 (os : List Mk) : Prop := match os with
  | [] => True
  | m :: _ => m.k ≠ 1 ∧ m.k ≠ 2
theorem calm2.to {os : List Mk} (h : calm2 os) : calm os := by
  cases os with
  | nil => trivial
  | cons m os => exact ⟨h.1, fun hk => by have := h.2 hk; omega⟩
theorem calm1.to {os : List Mk} (h : calm1 os) : calm2 os := by
  cases os with
  | nil => trivial
  | cons m os => exact ⟨h.1, fun hk => absurd hk h.2⟩
theorem calm2.top {os : List Mk} (h : calm2 os) : topS os ≠ 2 := by
  cases os with
  | nil => simp [topS]
  | cons m os =>
    simp only [topS]
    split
    · rename_i hk; have := h.2 hk; omega
    · omega
theorem calm1.top {os : List Mk} (h : calm1 os) : topS os = 0 := by
  cases os with
  | nil => rfl
  | cons m os =>
    simp only [topS]
    rw [if_neg h.2]

theorem settle_calm {os : List Mk} (h : calm os) (ar : List Nd) (ov : List Nat) : settle os ar ov = some (ar, ov, os) := by
  cases os with
  | nil => rfl
  | cons m os =>
    unfold settle
    rw [if_neg h.1, if_neg (fun hh => h.2 hh.1 hh.2)]
theorem settleS_calm {os : List Mk} (h : calm os) (ts : List Tk) (ar : List Nd) (ov : List Nat) : settleS ts ar ov os = some ⟨ts, ar, ov, os, true⟩ := by
  unfold settleS
  rw [settle_calm h]
  rfl

/-- The root of what was laid last. -/
abbrev rt (ar : List Nd) : Nat := ar.length - 1

def AtF (rg : Bool) (ts : List Tk) (ar : List Nd) : Prop := ∀ ov os, rgOf os = rg → R ⟨ts, ar, ov, os, false⟩ = none
def AtO (rg : Bool) (ts : List Tk) (ar : List Nd) (ts' : List Tk) (ar' : List Nd) : Prop := ∀ ov os, rgOf os = rg → R ⟨ts, ar, ov, os, false⟩ = Rw (settleS ts' ar' (rt ar' :: ov) os)
def C3F (rg : Bool) (ts : List Tk) (ar : List Nd) : Prop := ∀ ov os, rgOf os = rg → calm os → R ⟨ts, ar, ov, os, false⟩ = none
def C3O (rg : Bool) (ts : List Tk) (ar : List Nd) (ts' : List Tk) (ar' : List Nd) : Prop := ∀ ov os, rgOf os = rg → calm os → R ⟨ts, ar, ov, os, false⟩ = R ⟨ts', ar', rt ar' :: ov, os, true⟩
def C2F (rg : Bool) (ts : List Tk) (ar : List Nd) : Prop := ∀ ov os, rgOf os = rg → calm2 os → R ⟨ts, ar, ov, os, false⟩ = none
def C2O (rg : Bool) (ts : List Tk) (ar : List Nd) (ts' : List Tk) (ar' : List Nd) : Prop := ∀ ov os, rgOf os = rg → calm2 os → R ⟨ts, ar, ov, os, false⟩ = R ⟨ts', ar', rt ar' :: ov, os, true⟩
def ExF (rg : Bool) (ts : List Tk) (ar : List Nd) : Prop := ∀ ov os, rgOf os = rg → calm1 os → R ⟨ts, ar, ov, os, false⟩ = none
def ExO (rg : Bool) (ts : List Tk) (ar : List Nd) (ts' : List Tk) (ar' : List Nd) : Prop := ∀ ov os, rgOf os = rg → calm1 os → R ⟨ts, ar, ov, os, false⟩ = RO' (closeP ts' ar' (rt ar' :: ov) os)

theorem addN_lt {ar : List Nd} (h : ar.length < 24) (x : Nd) : addN ar x = some (ar ++ [x]) := if_pos h
theorem addN_ge {ar : List Nd} (h : ¬ ar.length < 24) (x : Nd) : addN ar x = none := if_neg h
theorem rt_app (ar : List Nd) (x : Nd) : rt (ar ++ [x]) = ar.length := by simp [rt]

theorem whole_lt {x : Nd} {ts : List Tk} {ar : List Nd} {ov : List Nat} {os : List Mk} (h : ar.length < 24) : wholeP x ts ar ov os = settleS ts (ar ++ [x]) (rt (ar ++ [x]) :: ov) os := by
  unfold wholeP
  rw [addN_lt h, rt_app]
theorem whole_ge {x : Nd} {ts : List Tk} {ar : List Nd} {ov : List Nat} {os : List Mk} (h : ¬ ar.length < 24) : wholeP x ts ar ov os = none := by
  unfold wholeP
  rw [addN_ge h]

/-! ### atoms -/
theorem at_leafO {rg : Bool} {t : Tk} {ts : List Tk} {ar : List Nd} (hk : t.k = 2) (h : ar.length < 24) : AtO rg (t :: ts) ar ts (ar ++ [nLeaf t.o t.n]) := by
  intro ov os _
  rw [R_no]
  simp only [atomP, hdT, List.headD_cons, hk, if_true, List.tail_cons]
  rw [whole_lt h]
theorem at_leafF {rg : Bool} {t : Tk} {ts : List Tk} {ar : List Nd} (hk : t.k = 2) (h : ¬ ar.length < 24) : AtF rg (t :: ts) ar := by
  intro ov os _
  rw [R_no]
  simp only [atomP, hdT, List.headD_cons, hk, if_true, List.tail_cons]
  rw [whole_ge h]
  rfl
theorem atomP_ref {t : Tk} {ts : List Tk} {ar : List Nd} {ov : List Nat} {os : List Mk} (hk : t.k = 4) : atomP (t :: ts) ar ov os = refP t.r ts ar ov os := by
  unfold atomP
  rw [if_neg (by show ¬ t.k = 2; omega), if_pos (by show t.k = 4; omega)]
  rfl
theorem atomP_call {t : Tk} {ts : List Tk} {ar : List Nd} {ov : List Nat} {os : List Mk} (hk : t.k = 5) : atomP (t :: ts) ar ov os = if (hdT ts).k = 40 ∧ (hdT ts.tail).k ≠ 41 ∧ (hdT ts.tail).k ≠ 1 then some ⟨ts.tail, ar, ov, ⟨4, t.n, 0, -1⟩ :: os, false⟩ else none := by
  unfold atomP
  rw [if_neg (by show ¬ t.k = 2; omega), if_neg (by show ¬ t.k = 4; omega), if_pos (by show t.k = 5; omega)]
  rfl
theorem at_refO {rg : Bool} {t : Tk} {ts : List Tk} {ar : List Nd} (hk : t.k = 4) (h1 : (hdT ts).k ≠ 1) (h2 : (hdT ts).k ≠ 58) (h : ar.length < 24) : AtO rg (t :: ts) ar ts (ar ++ [nRef t.r]) := by
  intro ov os _
  rw [R_no, atomP_ref hk]
  unfold refP
  rw [if_neg h1, if_neg h2, whole_lt h]
theorem at_refF {rg : Bool} {t : Tk} {ts : List Tk} {ar : List Nd} (hk : t.k = 4) (h : (hdT ts).k = 1 ∨ ((hdT ts).k ≠ 58 ∧ ¬ ar.length < 24)) : AtF rg (t :: ts) ar := by
  intro ov os _
  rw [R_no]
  rw [atomP_ref hk]
  unfold refP
  rcases h with h | ⟨h, h'⟩
  · rw [if_pos h]; rfl
  · by_cases h1 : (hdT ts).k = 1
    · rw [if_pos h1]; rfl
    · rw [if_neg h1, if_neg h, whole_ge h']; rfl
theorem at_rngO {t : Tk} {ts : List Tk} {ar : List Nd} (hk : t.k = 4) (h1 : (hdT ts).k = 58) (h2 : (hdT ts.tail).k = 4) (h : ar.length < 24) : AtO true (t :: ts) ar ts.tail.tail (ar ++ [nRng t.r (hdT ts.tail).r]) := by
  intro ov os hr
  rw [R_no]
  rw [atomP_ref hk]
  unfold refP
  rw [if_neg (by omega), if_pos h1, if_pos ⟨h2, hr⟩, whole_lt h]
theorem at_rngF {rg : Bool} {t : Tk} {ts : List Tk} {ar : List Nd} (hk : t.k = 4) (h1 : (hdT ts).k = 58) (h2 : (hdT ts.tail).k ≠ 4 ∨ rg = false ∨ ¬ ar.length < 24) : AtF rg (t :: ts) ar := by
  intro ov os hr
  rw [R_no]
  rw [atomP_ref hk]
  unfold refP
  rw [if_neg (by omega), if_pos h1]
  split
  · rename_i hh
    rcases h2 with h2 | h2 | h2
    · exact absurd hh.1 h2
    · rw [hr, h2] at hh; exact absurd hh.2 (by decide)
    · rw [whole_ge h2]; rfl
  · rfl
/-- No operand opens so. -/
theorem at_bad {rg : Bool} {ts : List Tk} {ar : List Nd} (h2 : (hdT ts).k ≠ 2) (h4 : (hdT ts).k ≠ 4) (h5 : (hdT ts).k ≠ 5) (h40 : (hdT ts).k ≠ 40) (h6 : ¬ ((hdT ts).k = 6 ∧ (hdT ts).n = 8)) : AtF rg ts ar := by
  intro ov os _
  rw [R_no]
  unfold atomP
  rw [if_neg h2, if_neg h4, if_neg h5, if_neg h40, if_neg h6]
  rfl

/-! ### the sign -/
theorem R_neg {t : Tk} {ts : List Tk} {ar : List Nd} {ov : List Nat} {os : List Mk} (hk : t.k = 6) (hn : t.n = 8) : R ⟨t :: ts, ar, ov, os, false⟩ = R ⟨ts, ar, ov, ⟨1, 0, 0, 0⟩ :: os, false⟩ := by
  rw [R_no]
  simp only [atomP, hdT, List.headD_cons, hk, hn, List.tail_cons, Nat.reduceEqDiff, if_false, if_true, and_self, Rw]
theorem at_negO {rg : Bool} {t : Tk} {ts ts' : List Tk} {ar ar' : List Nd} (hk : t.k = 6) (hn : t.n = 8) (h : AtO false ts ar ts' ar') (hl : ar'.length < 24) : AtO rg (t :: ts) ar ts' (ar' ++ [nNeg (rt ar')]) := by
  intro ov os _
  rw [R_neg hk hn, h ov _ (rg_bin (by decide))]
  unfold settleS
  simp only [settle, if_true, addN_lt hl, rt_app]
theorem at_negF {rg : Bool} {t : Tk} {ts ts' : List Tk} {ar ar' : List Nd} (hk : t.k = 6) (hn : t.n = 8) (h : AtO false ts ar ts' ar') (hl : ¬ ar'.length < 24) : AtF rg (t :: ts) ar := by
  intro ov os _
  rw [R_neg hk hn, h ov _ (rg_bin (by decide))]
  unfold settleS
  simp only [settle, if_true, addN_ge hl, Option.map_none]
  rfl
theorem at_negX {rg : Bool} {t : Tk} {ts : List Tk} {ar : List Nd} (hk : t.k = 6) (hn : t.n = 8) (h : AtF false ts ar) : AtF rg (t :: ts) ar := by
  intro ov os _
  rw [R_neg hk hn, h ov _ (rg_bin (by decide))]

/-! ### brackets -/
theorem R_open {t : Tk} {ts : List Tk} {ar : List Nd} {ov : List Nat} {os : List Mk} (hk : t.k = 40) : R ⟨t :: ts, ar, ov, os, false⟩ = R ⟨ts, ar, ov, ⟨3, 0, 0, 0⟩ :: os, false⟩ := by
  rw [R_no]
  simp only [atomP, hdT, List.headD_cons, hk, List.tail_cons, Nat.reduceEqDiff, if_false, if_true, and_self, Rw]
theorem calm1_open (os : List Mk) : calm1 (⟨3, 0, 0, 0⟩ :: os) := ⟨by decide, by decide⟩
theorem at_openO {rg : Bool} {t : Tk} {ts ts' : List Tk} {ar ar' : List Nd} (hk : t.k = 40) (h : ExO false ts ar ts' ar') (hc : (hdT ts').k = 41) : AtO rg (t :: ts) ar ts'.tail ar' := by
  intro ov os _
  rw [R_open hk, h ov _ (rg_bin (by decide)) (calm1_open os)]
  simp only [closeP, Nat.reduceEqDiff, if_false, shutP, hc, if_true]
  rw [RO_map]
theorem at_openF {rg : Bool} {t : Tk} {ts ts' : List Tk} {ar ar' : List Nd} (hk : t.k = 40) (h : ExO false ts ar ts' ar') (hc : (hdT ts').k ≠ 41) : AtF rg (t :: ts) ar := by
  intro ov os _
  rw [R_open hk, h ov _ (rg_bin (by decide)) (calm1_open os)]
  simp only [closeP, Nat.reduceEqDiff, if_false, shutP, if_neg hc]
  rfl
theorem at_openX {rg : Bool} {t : Tk} {ts : List Tk} {ar : List Nd} (hk : t.k = 40) (h : ExF false ts ar) : AtF rg (t :: ts) ar := by
  intro ov os _
  rw [R_open hk, h ov _ (rg_bin (by decide)) (calm1_open os)]

/-! ### calls -/
/-- The arguments of function f, k of them read: the machine stands at the next. -/
def CaO (f k : Nat) (l : Int) (rg : Bool) (ts : List Tk) (ar : List Nd) (ts' : List Tk) (ar' : List Nd) : Prop := ∀ ov os, rgOf os = rg → R ⟨ts, ar, ov, os, false⟩ = R ⟨ts', ar', ov, ⟨4, f, k, l⟩ :: os, false⟩
theorem calm1_call (f k : Nat) (l : Int) (os : List Mk) : calm1 (⟨4, f, k, l⟩ :: os) := ⟨by show 4 ≠ 1; omega, by show 4 ≠ 2; omega⟩
theorem rg_call (f k : Nat) (l : Int) (os : List Mk) : rgOf (⟨4, f, k, l⟩ :: os) = rangeOK f := by simp [rgOf]
theorem ca_start {rg : Bool} {t : Tk} {ts : List Tk} {ar : List Nd} (hk : t.k = 5) (h1 : (hdT ts).k = 40) (h2 : (hdT ts.tail).k ≠ 41) (h3 : (hdT ts.tail).k ≠ 1) : CaO t.n 0 (-1) rg (t :: ts) ar ts.tail ar := by
  intro ov os _
  rw [R_no, atomP_call hk, if_pos ⟨h1, h2, h3⟩]
  rfl
theorem ca_startF {rg : Bool} {t : Tk} {ts : List Tk} {ar : List Nd} (hk : t.k = 5) (h : (hdT ts).k ≠ 40 ∨ (hdT ts.tail).k = 41 ∨ (hdT ts.tail).k = 1) : AtF rg (t :: ts) ar := by
  intro ov os _
  rw [R_no, atomP_call hk, if_neg]
  · rfl
  · intro ⟨a, b, c⟩
    rcases h with h | h | h
    · exact h a
    · exact b h
    · exact c h
theorem ca_X {f k : Nat} {l : Int} {rg : Bool} {ts ts' : List Tk} {ar ar' : List Nd} (h : CaO f k l rg ts ar ts' ar') (hx : ExF (rangeOK f) ts' ar') : AtF rg ts ar := by
  intro ov os hr
  rw [h ov os hr, hx ov _ (rg_call _ _ _ _) (calm1_call _ _ _ _)]
theorem ca_big {f k : Nat} {l : Int} {rg : Bool} {ts ts' ts2 : List Tk} {ar ar' ar2 : List Nd} (h : CaO f k l rg ts ar ts' ar') (hx : ExO (rangeOK f) ts' ar' ts2 ar2) (hl : ¬ ar2.length < 24) : AtF rg ts ar := by
  intro ov os hr
  rw [h ov os hr, hx ov _ (rg_call _ _ _ _) (calm1_call _ _ _ _)]
  simp only [closeP, if_true, addN_ge hl]
  rfl
theorem ca_next {f k : Nat} {l : Int} {rg : Bool} {ts ts' ts2 : List Tk} {ar ar' ar2 : List Nd} (h : CaO f k l rg ts ar ts' ar') (hx : ExO (rangeOK f) ts' ar' ts2 ar2) (hl : ar2.length < 24) (hc : (hdT ts2).k = 44) : CaO f (k + 1) (ar2.length : Int) rg ts ar ts2.tail (ar2 ++ [nArg (rt ar2) l]) := by
  intro ov os hr
  rw [h ov os hr, hx ov _ (rg_call _ _ _ _) (calm1_call _ _ _ _)]
  simp only [closeP, if_true, addN_lt hl, hc]
  rfl
theorem ca_tok {f k : Nat} {l : Int} {rg : Bool} {ts ts' ts2 : List Tk} {ar ar' ar2 : List Nd} (h : CaO f k l rg ts ar ts' ar') (hx : ExO (rangeOK f) ts' ar' ts2 ar2) (hc : (hdT ts2).k ≠ 44) (hc2 : (hdT ts2).k ≠ 41) : AtF rg ts ar := by
  intro ov os hr
  rw [h ov os hr, hx ov _ (rg_call _ _ _ _) (calm1_call _ _ _ _)]
  simp only [closeP, if_true]
  split
  · rw [if_neg hc]
    unfold shutP
    rw [if_neg hc2]
    rfl
  · rfl
theorem ca_args {f k : Nat} {l : Int} {rg : Bool} {ts ts' ts2 : List Tk} {ar ar' ar2 : List Nd} (h : CaO f k l rg ts ar ts' ar') (hx : ExO (rangeOK f) ts' ar' ts2 ar2) (hc : (hdT ts2).k = 41) (ha : arity f (k + 1) = false) : AtF rg ts ar := by
  intro ov os hr
  rw [h ov os hr, hx ov _ (rg_call _ _ _ _) (calm1_call _ _ _ _)]
  simp only [closeP, if_true]
  split
  · rw [if_neg (by omega)]
    unfold shutP
    rw [if_pos hc, if_neg (by show ¬ 4 = 3; omega), if_neg (by show ¬ arity f (k + 1) = true; rw [ha]; simp)]
    rfl
  · rfl
theorem ca_end {f k : Nat} {l : Int} {rg : Bool} {ts ts' ts2 : List Tk} {ar ar' ar2 : List Nd} (h : CaO f k l rg ts ar ts' ar') (hx : ExO (rangeOK f) ts' ar' ts2 ar2) (hl : ar2.length < 24) (hc : (hdT ts2).k = 41) (ha : arity f (k + 1) = true) (hl2 : ar2.length + 1 < 24) : AtO rg ts ar ts2.tail (ar2 ++ [nArg (rt ar2) l] ++ [nCall f (ar2.length : Int) (k + 1)]) := by
  intro ov os hr
  rw [h ov os hr, hx ov _ (rg_call _ _ _ _) (calm1_call _ _ _ _)]
  simp only [closeP, if_true, addN_lt hl]
  rw [if_neg (by omega)]
  unfold shutP
  rw [if_pos hc, if_neg (by show ¬ 4 = 3; omega), if_pos (by show arity f (k + 1) = true; exact ha), RO_map, whole_lt (by simp; omega)]
theorem ca_endF {f k : Nat} {l : Int} {rg : Bool} {ts ts' ts2 : List Tk} {ar ar' ar2 : List Nd} (h : CaO f k l rg ts ar ts' ar') (hx : ExO (rangeOK f) ts' ar' ts2 ar2) (hc : (hdT ts2).k = 41) (hl2 : ¬ ar2.length + 1 < 24) : AtF rg ts ar := by
  intro ov os hr
  rw [h ov os hr, hx ov _ (rg_call _ _ _ _) (calm1_call _ _ _ _)]
  simp only [closeP, if_true]
  by_cases hl : ar2.length < 24
  · simp only [addN_lt hl]
    rw [if_neg (by omega)]
    unfold shutP
    rw [if_pos hc, if_neg (by show ¬ 4 = 3; omega)]
    split
    · rw [RO_map, whole_ge (by simp; omega)]; rfl
    · rfl
  · simp only [addN_ge hl]
    rfl

/-! ### chains -/
theorem c3_O {rg : Bool} {ts ts' : List Tk} {ar ar' : List Nd} (h : AtO rg ts ar ts' ar') : C3O rg ts ar ts' ar' := by
  intro ov os hr hc
  rw [h ov os hr, settleS_calm hc]
  rfl
theorem c3_F {rg : Bool} {ts : List Tk} {ar : List Nd} (h : AtF rg ts ar) : C3F rg ts ar := fun ov os hr _ => h ov os hr

theorem after1_cons (s : Nat) (ts : List Tk) (ar : List Nd) (ov : List Nat) (m : Mk) (os : List Mk) : after1 s ts ar ov (m :: os) = if s < 2 ∧ topS (m :: os) = 1 then (match joinP m ar ov with
      | some x => after2 0 ts x.1 x.2 os
      | none => none) else after2 s ts ar ov (m :: os) := rfl
theorem after0_cons (s : Nat) (ts : List Tk) (ar : List Nd) (ov : List Nat) (m : Mk) (os : List Mk) : after0 s ts ar ov (m :: os) = if s < 3 ∧ topS (m :: os) = 2 then (match joinP m ar ov with
      | some x => after1 s ts x.1 x.2 os
      | none => none) else after1 s ts ar ov (m :: os) := rfl
theorem after_push {s : Nat} {ts : List Tk} {ar : List Nd} {v : Nat} {ov : List Nat} {os : List Mk} (hs0 : s ≠ 0) (h2 : s = 3 ∨ topS os ≠ 2) (h1 : 2 ≤ s ∨ topS os ≠ 1) : after0 s ts ar (v :: ov) os = if isRng ar v = true then none else some (.inl ⟨ts.tail, ar, v :: ov, ⟨2, (hdT ts).n, 0, 0⟩ :: os, false⟩) := by
  have e2 : after2 s ts ar (v :: ov) os = if isRng ar v = true then none else some (.inl ⟨ts.tail, ar, v :: ov, ⟨2, (hdT ts).n, 0, 0⟩ :: os, false⟩) := by
    unfold after2
    rw [if_neg hs0]
  have e1 : after1 s ts ar (v :: ov) os = after2 s ts ar (v :: ov) os := by
    cases os with
    | nil => rfl
    | cons m os =>
      rw [after1_cons, if_neg (by omega)]
  cases os with
  | nil => exact e1.trans e2
  | cons m os =>
    rw [after0_cons, if_neg (by omega), e1, e2]
theorem strg_le (o : Nat) : 1 ≤ strg o ∧ strg o ≤ 3 := by
  unfold strg
  repeat' split
  all_goals omega
theorem tkS_op {t : Tk} (h : t.k = 6) : tkS t = strg t.n := if_pos h
theorem hd_cons_k {ts : List Tk} (h : (hdT ts).k ≠ 0) : ∃ t r, ts = t :: r ∧ hdT ts = t ∧ ts.tail = r := by
  cases ts with
  | nil => exact absurd rfl h
  | cons t r => exact ⟨t, r, rfl, rfl, rfl⟩

/-- A '*' or '/' behind a chain of them: the machine pushes it. -/
theorem c3_push {rg : Bool} {ts ts1 : List Tk} {ar ar1 : List Nd} (h : C3O rg ts ar ts1 ar1) (hk : (hdT ts1).k = 6) (hs : strg (hdT ts1).n = 3) :
    ∀ ov os, rgOf os = rg → calm os → R ⟨ts, ar, ov, os, false⟩ = if isRng ar1 (rt ar1) = true then none else R ⟨ts1.tail, ar1, rt ar1 :: ov, ⟨2, (hdT ts1).n, 0, 0⟩ :: os, false⟩ := by
  intro ov os hr hc
  rw [h ov os hr hc, R_ye, tkS_op hk, hs, after_push (by omega) (.inl rfl) (.inl (by omega))]
  split <;> rfl
theorem c3_rngF {rg : Bool} {ts ts1 : List Tk} {ar ar1 : List Nd} (h : C3O rg ts ar ts1 ar1) (hk : (hdT ts1).k = 6) (hs : strg (hdT ts1).n = 3) (hr : isRng ar1 (rt ar1) = true) : C3F rg ts ar := by
  intro ov os h1 h2
  rw [c3_push h hk hs ov os h1 h2, if_pos hr]
theorem c3_stepF {rg : Bool} {ts ts1 : List Tk} {ar ar1 : List Nd} (h : C3O rg ts ar ts1 ar1) (hk : (hdT ts1).k = 6) (hs : strg (hdT ts1).n = 3) (hx : AtF false ts1.tail ar1) : C3F rg ts ar := by
  intro ov os h1 h2
  rw [c3_push h hk hs ov os h1 h2]
  split
  · rfl
  · exact hx _ _ (rg_bin (by show 2 ≠ 4; omega))
theorem c3_step {rg : Bool} {ts ts1 ts2 : List Tk} {ar ar1 ar2 : List Nd} (h : C3O rg ts ar ts1 ar1) (hk : (hdT ts1).k = 6) (hs : strg (hdT ts1).n = 3) (hr : isRng ar1 (rt ar1) = false) (hx : AtO false ts1.tail ar1 ts2 ar2) (hl : ar2.length < 24) : C3O rg ts ar ts2 (ar2 ++ [nBin (hdT ts1).n (rt ar1) (rt ar2)]) := by
  intro ov os h1 h2
  rw [c3_push h hk hs ov os h1 h2, if_neg (by rw [hr]; simp), hx _ _ (rg_bin (by show 2 ≠ 4; omega))]
  unfold settleS
  simp only [settle, Nat.reduceEqDiff, if_false, hs, and_self, if_true, joinP, addN_lt hl, Option.map_some, rt_app]
  rfl
theorem c3_big {rg : Bool} {ts ts1 ts2 : List Tk} {ar ar1 ar2 : List Nd} (h : C3O rg ts ar ts1 ar1) (hk : (hdT ts1).k = 6) (hs : strg (hdT ts1).n = 3) (hx : AtO false ts1.tail ar1 ts2 ar2) (hl : ¬ ar2.length < 24) : C3F rg ts ar := by
  intro ov os h1 h2
  rw [c3_push h hk hs ov os h1 h2]
  split
  · rfl
  · rw [hx _ _ (rg_bin (by show 2 ≠ 4; omega))]
    unfold settleS
    simp only [settle, Nat.reduceEqDiff, if_false, hs, and_self, if_true, joinP, addN_ge hl, Option.map_none]
    rfl

theorem c2_O {rg : Bool} {ts ts' : List Tk} {ar ar' : List Nd} (h : C3O rg ts ar ts' ar') : C2O rg ts ar ts' ar' := fun ov os hr hc => h ov os hr hc.to
theorem c2_F {rg : Bool} {ts : List Tk} {ar : List Nd} (h : C3F rg ts ar) : C2F rg ts ar := fun ov os hr hc => h ov os hr hc.to
theorem c2_push {rg : Bool} {ts ts1 : List Tk} {ar ar1 : List Nd} (h : C2O rg ts ar ts1 ar1) (hk : (hdT ts1).k = 6) (hs : strg (hdT ts1).n = 2) :
    ∀ ov os, rgOf os = rg → calm2 os → R ⟨ts, ar, ov, os, false⟩ = if isRng ar1 (rt ar1) = true then none else R ⟨ts1.tail, ar1, rt ar1 :: ov, ⟨2, (hdT ts1).n, 0, 0⟩ :: os, false⟩ := by
  intro ov os hr hc
  rw [h ov os hr hc, R_ye, tkS_op hk, hs, after_push (by omega) (.inr hc.top) (.inl (by omega))]
  split <;> rfl
theorem c2_rngF {rg : Bool} {ts ts1 : List Tk} {ar ar1 : List Nd} (h : C2O rg ts ar ts1 ar1) (hk : (hdT ts1).k = 6) (hs : strg (hdT ts1).n = 2) (hr : isRng ar1 (rt ar1) = true) : C2F rg ts ar := by
  intro ov os h1 h2
  rw [c2_push h hk hs ov os h1 h2, if_pos hr]
theorem calm_bin {o : Nat} {os : List Mk} (hs : strg o ≠ 3) : calm (⟨2, o, 0, 0⟩ :: os) := ⟨by show 2 ≠ 1; omega, fun _ => hs⟩
theorem c2_stepF {rg : Bool} {ts ts1 : List Tk} {ar ar1 : List Nd} (h : C2O rg ts ar ts1 ar1) (hk : (hdT ts1).k = 6) (hs : strg (hdT ts1).n = 2) (hx : C3F false ts1.tail ar1) : C2F rg ts ar := by
  intro ov os h1 h2
  rw [c2_push h hk hs ov os h1 h2]
  split
  · rfl
  · exact hx _ _ (rg_bin (by show 2 ≠ 4; omega)) (calm_bin (by omega))
/-- A '+' or '-' on top is joined at the next look. -/
theorem R_join2 {ts : List Tk} {ar : List Nd} {a b o : Nat} {ov : List Nat} {os : List Mk} (ho : strg o = 2) (hs : tkS (hdT ts) < 3) (hc : topS os ≠ 2) : R ⟨ts, ar, b :: a :: ov, ⟨2, o, 0, 0⟩ :: os, true⟩ = if ar.length < 24 then R ⟨ts, ar ++ [nBin o a b], ar.length :: ov, os, true⟩ else none := by
  rw [R_ye]
  have e : after0 (tkS (hdT ts)) ts ar (b :: a :: ov) (⟨2, o, 0, 0⟩ :: os) = match joinP ⟨2, o, 0, 0⟩ ar (b :: a :: ov) with
      | some x => after1 (tkS (hdT ts)) ts x.1 x.2 os
      | none => none := by
    have ht : topS (⟨2, o, 0, 0⟩ :: os) = 2 := by simp [topS, ho]
    rw [after0_cons, if_pos ⟨hs, ht⟩]
  rw [e]
  unfold joinP
  by_cases hl : ar.length < 24
  · simp only [addN_lt hl, Option.map_some, if_pos hl]
    rw [R_ye]
    congr 1
    cases os with
    | nil => rfl
    | cons m os =>
      rw [after0_cons, if_neg (by omega)]
  · simp only [addN_ge hl, Option.map_none, if_neg hl]
    rfl
theorem c2_step {rg : Bool} {ts ts1 ts2 : List Tk} {ar ar1 ar2 : List Nd} (h : C2O rg ts ar ts1 ar1) (hk : (hdT ts1).k = 6) (hs : strg (hdT ts1).n = 2) (hr : isRng ar1 (rt ar1) = false) (hx : C3O false ts1.tail ar1 ts2 ar2) (ht : tkS (hdT ts2) < 3) (hl : ar2.length < 24) : C2O rg ts ar ts2 (ar2 ++ [nBin (hdT ts1).n (rt ar1) (rt ar2)]) := by
  intro ov os h1 h2
  rw [c2_push h hk hs ov os h1 h2, if_neg (by rw [hr]; simp), hx _ _ (rg_bin (by show 2 ≠ 4; omega)) (calm_bin (by omega)), R_join2 hs ht h2.top, if_pos hl, rt_app]
theorem c2_big {rg : Bool} {ts ts1 ts2 : List Tk} {ar ar1 ar2 : List Nd} (h : C2O rg ts ar ts1 ar1) (hk : (hdT ts1).k = 6) (hs : strg (hdT ts1).n = 2) (hx : C3O false ts1.tail ar1 ts2 ar2) (ht : tkS (hdT ts2) < 3) (hl : ¬ ar2.length < 24) : C2F rg ts ar := by
  intro ov os h1 h2
  rw [c2_push h hk hs ov os h1 h2]
  split
  · rfl
  · rw [hx _ _ (rg_bin (by show 2 ≠ 4; omega)) (calm_bin (by omega)), R_join2 hs ht h2.top, if_neg hl]

/-! ### expressions -/
theorem after_shut {ts : List Tk} {ar : List Nd} {ov : List Nat} {os : List Mk} (hc : calm1 os) : after0 0 ts ar ov os = closeP ts ar ov os := by
  have ht := hc.top
  cases os with
  | nil => rfl
  | cons m os =>
    rw [after0_cons, if_neg (by omega), after1_cons, if_neg (by omega)]
    rfl
theorem ex_O {rg : Bool} {ts ts' : List Tk} {ar ar' : List Nd} (h : C2O rg ts ar ts' ar') (hs : tkS (hdT ts') = 0) : ExO rg ts ar ts' ar' := by
  intro ov os hr hc
  rw [h ov os hr hc.to, R_ye, hs, after_shut hc]
theorem ex_F {rg : Bool} {ts : List Tk} {ar : List Nd} (h : C2F rg ts ar) : ExF rg ts ar := fun ov os hr hc => h ov os hr hc.to
theorem ex_push {rg : Bool} {ts ts1 : List Tk} {ar ar1 : List Nd} (h : C2O rg ts ar ts1 ar1) (hk : (hdT ts1).k = 6) (hs : strg (hdT ts1).n = 1) :
    ∀ ov os, rgOf os = rg → calm1 os → R ⟨ts, ar, ov, os, false⟩ = if isRng ar1 (rt ar1) = true then none else R ⟨ts1.tail, ar1, rt ar1 :: ov, ⟨2, (hdT ts1).n, 0, 0⟩ :: os, false⟩ := by
  intro ov os hr hc
  have ht := hc.top
  rw [h ov os hr hc.to, R_ye, tkS_op hk, hs, after_push (by omega) (.inr (by omega)) (.inr (by omega))]
  split <;> rfl
theorem ex_rngF {rg : Bool} {ts ts1 : List Tk} {ar ar1 : List Nd} (h : C2O rg ts ar ts1 ar1) (hk : (hdT ts1).k = 6) (hs : strg (hdT ts1).n = 1) (hr : isRng ar1 (rt ar1) = true) : ExF rg ts ar := by
  intro ov os h1 h2
  rw [ex_push h hk hs ov os h1 h2, if_pos hr]
theorem calm2_bin {o : Nat} {os : List Mk} (hs : strg o = 1) : calm2 (⟨2, o, 0, 0⟩ :: os) := ⟨by show 2 ≠ 1; omega, fun _ => hs⟩
theorem ex_stepF {rg : Bool} {ts ts1 : List Tk} {ar ar1 : List Nd} (h : C2O rg ts ar ts1 ar1) (hk : (hdT ts1).k = 6) (hs : strg (hdT ts1).n = 1) (hx : C2F false ts1.tail ar1) : ExF rg ts ar := by
  intro ov os h1 h2
  rw [ex_push h hk hs ov os h1 h2]
  split
  · rfl
  · exact hx _ _ (rg_bin (by show 2 ≠ 4; omega)) (calm2_bin hs)
theorem R_join1 {ts : List Tk} {ar : List Nd} {a b o : Nat} {ov : List Nat} {os : List Mk} (ho : strg o = 1) (hs : tkS (hdT ts) < 2) : R ⟨ts, ar, b :: a :: ov, ⟨2, o, 0, 0⟩ :: os, true⟩ = if ar.length < 24 then RO' (closeP ts (ar ++ [nBin o a b]) (ar.length :: ov) os) else none := by
  rw [R_ye]
  have ht : topS (⟨2, o, 0, 0⟩ :: os) = 1 := by simp [topS, ho]
  have e : after0 (tkS (hdT ts)) ts ar (b :: a :: ov) (⟨2, o, 0, 0⟩ :: os) = match joinP ⟨2, o, 0, 0⟩ ar (b :: a :: ov) with
      | some x => after2 0 ts x.1 x.2 os
      | none => none := by
    rw [after0_cons, if_neg (by omega), after1_cons, if_pos ⟨hs, ht⟩]
  rw [e]
  unfold joinP
  by_cases hl : ar.length < 24
  · simp only [addN_lt hl, Option.map_some, if_pos hl]
    rfl
  · simp only [addN_ge hl, Option.map_none, if_neg hl]
    rfl
theorem ex_step {rg : Bool} {ts ts1 ts2 : List Tk} {ar ar1 ar2 : List Nd} (h : C2O rg ts ar ts1 ar1) (hk : (hdT ts1).k = 6) (hs : strg (hdT ts1).n = 1) (hr : isRng ar1 (rt ar1) = false) (hx : C2O false ts1.tail ar1 ts2 ar2) (ht : tkS (hdT ts2) < 2) (hl : ar2.length < 24) : ExO rg ts ar ts2 (ar2 ++ [nBin (hdT ts1).n (rt ar1) (rt ar2)]) := by
  intro ov os h1 h2
  rw [ex_push h hk hs ov os h1 h2, if_neg (by rw [hr]; simp), hx _ _ (rg_bin (by show 2 ≠ 4; omega)) (calm2_bin hs), R_join1 hs ht, if_pos hl, rt_app]
theorem ex_big {rg : Bool} {ts ts1 ts2 : List Tk} {ar ar1 ar2 : List Nd} (h : C2O rg ts ar ts1 ar1) (hk : (hdT ts1).k = 6) (hs : strg (hdT ts1).n = 1) (hx : C2O false ts1.tail ar1 ts2 ar2) (ht : tkS (hdT ts2) < 2) (hl : ¬ ar2.length < 24) : ExF rg ts ar := by
  intro ov os h1 h2
  rw [ex_push h hk hs ov os h1 h2]
  split
  · rfl
  · rw [hx _ _ (rg_bin (by show 2 ≠ 4; omega)) (calm2_bin hs), R_join1 hs ht, if_neg hl]

/-! ### the whole text -/
theorem pa_O {s : List UInt8} {ts' : List Tk} {ar' : List Nd} (h : ExO false (toks s) [] ts' ar') : parseP s = if (hdT ts').k = 0 then some ar' else none := by
  unfold parseP
  rw [h [] [] rfl trivial]
  simp only [closeP]
  split <;> rfl
theorem pa_F {s : List UInt8} (h : ExF false (toks s) []) : parseP s = none := h [] [] rfl trivial

end Go.Proofs.Qxb6500570aGreat
