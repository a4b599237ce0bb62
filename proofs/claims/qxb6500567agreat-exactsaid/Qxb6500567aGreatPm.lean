import Derived.Test.Qxb6500567aGreatPl
/- The builder's machine of tasks, plain. -/
namespace Go.Proofs.Qxb6500567aGreat
set_option linter.unusedVariables false
set_option linter.unusedSimpArgs false

/-- A task. -/
structure TK where
  what : Nat
  r : RE
  at' : Nat
  e : Int

structure BS where
  o : List PN
  rs : List Int
  W : List TK

def pushB (W : List TK) (t : TK) : List TK := if W.length < 49 then t :: W else W
theorem pushB_room {W : List TK} {t : TK} (h : W.length < 49) : pushB W t = t :: W := if_pos h

abbrev tkb (r : RE) : TK := ⟨0, r, 0, -1⟩
abbrev tkc (r : RE) : TK := ⟨1, r, 0, -1⟩

/-- A node for a leaf, and the kind of any. -/
def leafN : RE → PN
  | .goto S => ⟨1, -1, -1, 0, 0, 0, false, S⟩
  | .ret => nd 2 (-1) (-1)
  | .label _ => nd 3 (-1) (-1)
  | _ => nd 0 (-1) (-1)

def kindR : RE → Nat
  | .goto _ => 1
  | .ret => 2
  | .label _ => 3
  | .seq _ _ => 4
  | .cond _ _ _ => 5
  | .rangeFunc _ _ _ _ => 6
  | .block _ _ => 7
  | _ => 0

/-- Appended, its root pushed. -/
def putB (σ : BS) (x : PN) : BS := ⟨addB σ.o x, rootB σ.rs (top (addB σ.o x)), σ.W⟩

def openB (r : RE) (σ : BS) : BS :=
  match r with
  | .seq a b => if shp a = 0 then { σ with W := pushB σ.W (tkb b) } else if shp b = 0 then { σ with W := pushB σ.W (tkb a) }
    else { σ with W := pushB (pushB (pushB σ.W ⟨2, r, 0, -1⟩) (tkb b)) (tkb a) }
  | .cond _ a b => if shp a = 1 then { σ with W := pushB σ.W (tkb b) } else if shp b = 1 then { σ with W := pushB σ.W (tkb a) }
    else { σ with W := pushB (pushB (pushB σ.W ⟨2, r, 0, -1⟩) (tkc b)) (tkc a) }
  | .block g a => { σ with W := pushB (pushB σ.W ⟨3, r, 0, -1⟩) (tkc a) }
  | .rangeFunc _ _ x a => if lzE (rmn x) (rmx x) (rlz x) then ⟨addB σ.o (nd 0 (-1) (-1)), σ.rs, pushB (pushB σ.W ⟨4, r, (addB σ.o (nd 0 (-1) (-1))).length, top (addB σ.o (nd 0 (-1) (-1)))⟩) (tkb a)⟩
    else { σ with W := pushB (pushB σ.W ⟨4, r, σ.o.length, -1⟩) (tkb a) }
  | r => putB σ (leafN r)

def childB (r : RE) (σ : BS) : BS := if shp r = 2 then { σ with W := pushB σ.W (tkb r) } else putB σ (nd (if shp r = 1 then 1 else 0) (-1) (-1))

/-- The node of a repeat. -/
def repN : RE → PN
  | .rangeFunc _ _ x _ => ⟨6, 0, -1, rmn x, mxI (rmx x), 0, rlz x, 0⟩
  | _ => nd 6 0 (-1)
def capN : RE → Nat
  | .block g _ => g
  | _ => 0

def taskB (t : TK) (σ : BS) : BS :=
  if t.what = 1 then childB t.r σ
  else if t.what = 0 then openB t.r σ
  else if t.what = 2 then putB { σ with rs := (popB (popB σ.rs).2).2 } (nd (kindR t.r) (popB (popB σ.rs).2).1 (popB σ.rs).1)
  else if t.what = 3 then putB { σ with rs := (popB σ.rs).2 } ⟨7, (popB σ.rs).1, -1, 0, 0, capN t.r, false, 0⟩
  else ⟨(unrB (repN t.r) t.at' t.e σ.o (popB σ.rs).1).1, rootB (popB σ.rs).2 (unrB (repN t.r) t.at' t.e σ.o (popB σ.rs).1).2, σ.W⟩

def runB : Nat → BS → BS
  | 0, σ => σ
  | k + 1, σ => match σ.W with
    | [] => σ
    | t :: W => runB k (taskB t { σ with W := W })

theorem runB_add : ∀ (j k : Nat) (σ : BS), runB (j + k) σ = runB k (runB j σ)
  | 0, k, σ => by rw [Nat.zero_add]; rfl
  | j + 1, k, ⟨o, rs, []⟩ => by
    rw [show j + 1 + k = (j + k) + 1 by omega]
    simp only [runB]
    cases k with
    | zero => rfl
    | succ k => rfl
  | j + 1, k, ⟨o, rs, t :: W⟩ => by
    rw [show j + 1 + k = (j + k) + 1 by omega]
    simp only [runB]
    exact runB_add j k _

/-- From here to there. -/
def GoB (σ τ : BS) : Prop := ∃ k, runB k σ = τ
theorem GoB.trans {a b c : BS} (h : GoB a b) (h' : GoB b c) : GoB a c := by
  obtain ⟨j, rfl⟩ := h
  obtain ⟨k, rfl⟩ := h'
  exact ⟨j + k, runB_add j k a⟩
theorem GoB.step {o : List PN} {rs : List Int} {W : List TK} {t : TK} {σ : BS} (h : taskB t ⟨o, rs, W⟩ = σ) : GoB ⟨o, rs, t :: W⟩ σ := ⟨1, h⟩

/-- Laid. -/
abbrev lay (y : RE) (o : List PN) (rs : List Int) (W : List TK) : BS := ⟨o ++ pl y o.length, (((o.length + nds y : Nat) : Int) - 1) :: rs, W⟩

theorem put_one {o : List PN} {rs : List Int} {W : List TK} {x : PN} {y : RE} (h : pl y o.length = [x]) (h1 : nds y = 1) (ho : o.length < 31) (hr : rs.length < 25) : putB ⟨o, rs, W⟩ x = lay y o rs W := by
  unfold putB lay
  simp only
  rw [addB_room ho, rootB_room hr, top_app, h, h1]
  rfl

/-- The tree as a whole, and as somebody's child. -/
def OkB (r : RE) : Prop := ∀ (o : List PN) (rs : List Int) (W : List TK), WF r → shp r = 2 → o.length + nds (core r) ≤ 31 → rs.length + nds r ≤ 25 → W.length + 2 * nds r ≤ 49 → GoB ⟨o, rs, tkb r :: W⟩ (lay (core r) o rs W)

theorem OkB.child {r : RE} (h : OkB r) {o : List PN} {rs : List Int} {W : List TK} (hw : WF r) (ho : o.length + nds (child r) ≤ 31) (hr : rs.length + nds r ≤ 25) (hW : W.length + 2 * nds r ≤ 49) : GoB ⟨o, rs, tkc r :: W⟩ (lay (child r) o rs W) := by
  have hp := nds_pos r
  rcases shp_cases r with h1 | h1 | h1
  · rw [child0 h1] at ho ⊢
    refine GoB.step ?_
    show childB r ⟨o, rs, W⟩ = _
    unfold childB
    rw [if_neg (by omega), if_neg (by omega)]
    exact put_one rfl rfl (by rw [nds_emp] at ho; omega) (by omega)
  · rw [child1 h1] at ho ⊢
    refine GoB.step ?_
    show childB r ⟨o, rs, W⟩ = _
    unfold childB
    rw [if_neg (by omega), if_pos h1]
    exact put_one rfl rfl (by rw [nds_set] at ho; omega) (by omega)
  · rw [child2 h1] at ho ⊢
    refine GoB.trans (GoB.step ?_) (h o rs W hw h1 ho hr hW)
    show childB r ⟨o, rs, W⟩ = _
    unfold childB
    rw [if_pos h1]
    simp only
    rw [pushB_room (by omega)]

theorem lay_len {y : RE} {o : List PN} : (o ++ pl y o.length).length = o.length + nds y := by simp [pl_len]

theorem unr_room (y : RE) (mn : Nat) (mx : Option Nat) (lz : Bool) (h : mx ≠ some 0) (hm : ∀ m, mx = some m → mn ≤ m) : nds y + (if lzE mn mx lz then 1 else 0) ≤ nds (unr y mn mx lz) := by
  rw [nds_unr _ _ _ _ h hm]
  have hy := nds_pos y
  cases mx with
  | none =>
    have : lzE mn none lz = false := by simp [lzE, mxI]
    rw [this]
    simp [tailM]
    split <;> omega
  | some m =>
    have hm' := hm m rfl
    have h0 : m ≠ 0 := fun h1 => h (by rw [h1])
    cases mn with
    | zero =>
      have h1 : 1 * (nds y + 3) ≤ m * (nds y + 3) := Nat.mul_le_mul_right _ (by omega)
      have e1 : tailM (nds y) 0 (some m) = m * (nds y + 3) - 1 := by simp [tailM]; omega
      rw [e1]
      have e2 : sumM (nds y) 0 = 0 := by simp [sumM]
      rw [e2]
      split <;> split <;> omega
    | succ j =>
      have hz : lzE (j + 1) (some m) lz = false := by simp [lzE]
      rw [hz]
      have e2 : sumM (nds y) (j + 1) = (j + 1) * nds y + (j + 1) - 1 := by simp [sumM]
      have h1 : 1 * nds y ≤ (j + 1) * nds y := Nat.mul_le_mul_right _ (by omega)
      rw [e2]
      simp only [Bool.false_eq_true, if_false]
      split <;> omega

theorem okB (r : RE) : OkB r := by
  induction r with
  | skip | region _ _ _ | exit _ | refuse _ | loop _ _ | scope _ _ => intro o rs W _ h; simp [shp] at h
  | goto S =>
    intro o rs W hw h ho hr hW
    refine GoB.step ?_
    exact put_one rfl rfl (by simp [core, nds] at ho; omega) (by simp [nds] at hr; omega)
  | ret =>
    intro o rs W hw h ho hr hW
    refine GoB.step ?_
    exact put_one rfl rfl (by simp [core, nds] at ho; omega) (by simp [nds] at hr; omega)
  | label l =>
    intro o rs W hw h ho hr hW
    refine GoB.step ?_
    exact put_one rfl rfl (by simp [core, nds] at ho; omega) (by simp [nds] at hr; omega)
  | seq a b ia ib =>
    intro o rs W hw h ho hr hW
    have hn : nds (.seq a b) = nds a + nds b + 1 := rfl
    rw [hn] at hr hW
    have hc : core (.seq a b) = if shp a = 0 then core b else if shp b = 0 then core a else .cat (core a) (core b) := rfl
    have hs : shp (.seq a b) = if shp a = 1 ∨ shp b = 1 then 1 else if shp a = 0 ∧ shp b = 0 then 0 else 2 := rfl
    have ha := shp_cases a
    have hb := shp_cases b
    have hpa := nds_pos a
    have hpb := nds_pos b
    have h1 : ¬ (shp a = 1 ∨ shp b = 1) := fun h' => by rw [hs, if_pos h'] at h; omega
    have h2 : ¬ (shp a = 0 ∧ shp b = 0) := fun h' => by rw [hs, if_neg h1, if_pos h'] at h; omega
    have ht : taskB (tkb (.seq a b)) ⟨o, rs, W⟩ = openB (.seq a b) ⟨o, rs, W⟩ := rfl
    simp only [openB] at ht
    by_cases h3 : shp a = 0
    · rw [hc, if_pos h3] at ho ⊢
      rw [if_pos h3, pushB_room (by omega)] at ht
      exact GoB.trans (GoB.step ht) (ib o rs W hw.2 (by omega) ho (by omega) (by omega))
    · by_cases h4 : shp b = 0
      · rw [hc, if_neg h3, if_pos h4] at ho ⊢
        rw [if_neg h3, if_pos h4, pushB_room (by omega)] at ht
        exact GoB.trans (GoB.step ht) (ia o rs W hw.1 (by omega) ho (by omega) (by omega))
      · rw [hc, if_neg h3, if_neg h4] at ho ⊢
        rw [nds_cat] at ho
        rw [if_neg h3, if_neg h4, pushB_room (show W.length < 49 by omega), pushB_room (W := _ :: W) (by simp only [List.length_cons]; omega), pushB_room (W := _ :: _ :: W) (by simp only [List.length_cons]; omega)] at ht
        refine GoB.trans (GoB.step ht) (GoB.trans (ia o rs _ hw.1 (by omega) (by omega) (by omega) (by simp; omega)) ?_)
        refine GoB.trans (ib _ _ _ hw.2 (by omega) (by rw [lay_len]; omega) (by simp; omega) (by simp; omega)) (GoB.step ?_)
        simp only [taskB, popB, kindR]
        unfold putB lay
        simp only [List.length_append, pl_len, if_neg (show (2 : Nat) ≠ 1 by omega), if_neg (show (2 : Nat) ≠ 0 by omega), if_true]
        rw [addB_room (by simp [pl_len]; omega), rootB_room (by omega), top_app]
        simp [pl, pl_len, nds, top]
        omega
  | cond c a b ia ib =>
    intro o rs W hw h ho hr hW
    have hn : nds (.cond c a b) = nds a + nds b + 1 := rfl
    rw [hn] at hr hW
    have hc : core (.cond c a b) = if shp a = 1 then core b else if shp b = 1 then core a else .alt (child a) (child b) := rfl
    have hs : shp (.cond c a b) = if shp a = 1 then shp b else if shp b = 1 ∨ (shp a = 0 ∧ shp b = 0) then shp a else 2 := rfl
    have hpa := nds_pos a
    have hpb := nds_pos b
    have ht : taskB (tkb (.cond c a b)) ⟨o, rs, W⟩ = openB (.cond c a b) ⟨o, rs, W⟩ := rfl
    simp only [openB] at ht
    by_cases h3 : shp a = 1
    · rw [hc, if_pos h3] at ho ⊢
      rw [if_pos h3, pushB_room (by omega)] at ht
      rw [hs, if_pos h3] at h
      exact GoB.trans (GoB.step ht) (ib o rs W hw.2 h ho (by omega) (by omega))
    · by_cases h4 : shp b = 1
      · rw [hc, if_neg h3, if_pos h4] at ho ⊢
        rw [if_neg h3, if_pos h4, pushB_room (by omega)] at ht
        rw [hs, if_neg h3, if_pos (.inl h4)] at h
        exact GoB.trans (GoB.step ht) (ia o rs W hw.1 h ho (by omega) (by omega))
      · rw [hc, if_neg h3, if_neg h4] at ho ⊢
        rw [nds_alt] at ho
        rw [if_neg h3, if_neg h4, pushB_room (show W.length < 49 by omega), pushB_room (W := _ :: W) (by simp only [List.length_cons]; omega), pushB_room (W := _ :: _ :: W) (by simp only [List.length_cons]; omega)] at ht
        refine GoB.trans (GoB.step ht) (GoB.trans (OkB.child ia hw.1 (by omega) (by omega) (by simp; omega)) ?_)
        refine GoB.trans (OkB.child ib hw.2 (by rw [lay_len]; omega) (by simp; omega) (by simp; omega)) (GoB.step ?_)
        simp only [taskB, popB, kindR]
        unfold putB lay
        simp only [List.length_append, pl_len, if_neg (show (2 : Nat) ≠ 1 by omega), if_neg (show (2 : Nat) ≠ 0 by omega), if_true]
        rw [addB_room (by simp [pl_len]; omega), rootB_room (by omega), top_app]
        simp [pl, pl_len, nds, top]
        omega
  | block g a ia =>
    intro o rs W hw h ho hr hW
    have hn : nds (.block g a) = nds a + 1 := rfl
    rw [hn] at hr hW
    have hc : core (.block g a) = .grp (child a) g := rfl
    have hpa := nds_pos a
    have ht : taskB (tkb (.block g a)) ⟨o, rs, W⟩ = openB (.block g a) ⟨o, rs, W⟩ := rfl
    simp only [openB] at ht
    rw [hc] at ho ⊢
    rw [nds_grp] at ho
    rw [pushB_room (show W.length < 49 by omega), pushB_room (by simp; omega)] at ht
    refine GoB.trans (GoB.step ht) (GoB.trans (OkB.child ia hw.1 (by omega) (by omega) (by simp; omega)) (GoB.step ?_))
    simp only [taskB, popB, capN]
    unfold putB lay
    simp only [List.length_append, pl_len, if_neg (show (3 : Nat) ≠ 1 by omega), if_neg (show (3 : Nat) ≠ 0 by omega), if_neg (show (3 : Nat) ≠ 2 by omega), if_true]
    rw [addB_room (by simp [pl_len]; omega), rootB_room (by omega), top_app]
    simp [pl, pl_len, nds, top]
    try omega
  | rangeFunc ff ps x a _ ia =>
    intro o rs W hw h ho hr hW
    have hn : nds (.rangeFunc ff ps x a) = nds a + 1 := rfl
    rw [hn] at hr hW
    have hc : core (.rangeFunc ff ps x a) = unr (core a) (rmn x) (rmx x) (rlz x) := rfl
    have hs : shp (.rangeFunc ff ps x a) = if shp a = 1 ∧ 0 < rmn x then 1 else if shp a ≠ 2 ∨ rmx x = some 0 then 0 else 2 := rfl
    have hpa := nds_pos a
    have ht : taskB (tkb (.rangeFunc ff ps x a)) ⟨o, rs, W⟩ = openB (.rangeFunc ff ps x a) ⟨o, rs, W⟩ := rfl
    simp only [openB] at ht
    rw [hc] at ho ⊢
    have h1 : ¬ (shp a = 1 ∧ 0 < rmn x) := fun h' => by rw [hs, if_pos h'] at h; omega
    have h2 : ¬ (shp a ≠ 2 ∨ rmx x = some 0) := fun h' => by rw [hs, if_neg h1, if_pos h'] at h; omega
    have hsa : shp a = 2 := by
      by_cases h3 : shp a = 2
      · exact h3
      · exact absurd (.inl h3) h2
    have hm0 : rmx x ≠ some 0 := fun h3 => h2 (.inr h3)
    have hcnt := hw.2.2.2
    have hroom := unr_room (core a) (rmn x) (rmx x) (rlz x) hm0 (fun m hm => (hcnt m hm).1)
    have hun := unr_ok (y := core a) (O := o) (x := repN (.rangeFunc ff ps x a)) (mn := rmn x) (mx := rmx x) (lz := rlz x) rfl rfl rfl (fun m hm => (hcnt m hm).1) hm0 ho
    cases hz : lzE (rmn x) (rmx x) (rlz x) with
    | false =>
      rw [hz] at ht hun hroom
      simp only [Bool.false_eq_true, if_false, List.append_nil, Nat.add_zero] at ht hun hroom
      rw [pushB_room (show W.length < 49 by omega), pushB_room (by simp; omega)] at ht
      refine GoB.trans (GoB.step ht) (GoB.trans (ia o rs _ hw.1 hsa (by omega) (by omega) (by simp; omega)) (GoB.step ?_))
      simp only [taskB, popB, if_neg (show (4 : Nat) ≠ 1 by omega), if_neg (show (4 : Nat) ≠ 0 by omega), if_neg (show (4 : Nat) ≠ 2 by omega), if_neg (show (4 : Nat) ≠ 3 by omega)]
      rw [hun]
      simp only
      rw [rootB_room (by omega)]
    | true =>
      rw [hz] at ht hun hroom
      simp only [if_true] at ht hun hroom
      rw [pushB_room (show W.length < 49 by omega), pushB_room (by simp; omega), addB_room (show o.length < 31 by omega)] at ht
      refine GoB.trans (GoB.step ht) (GoB.trans (ia _ rs _ hw.1 hsa (by simp; omega) (by omega) (by simp; omega)) (GoB.step ?_))
      simp only [taskB, popB, if_neg (show (4 : Nat) ≠ 1 by omega), if_neg (show (4 : Nat) ≠ 0 by omega), if_neg (show (4 : Nat) ≠ 2 by omega), if_neg (show (4 : Nat) ≠ 3 by omega)]
      have e1 : top (o ++ [nd 0 (-1) (-1)]) = (o.length : Int) := by rw [top_app]; simp
      have e2 : (o ++ [nd 0 (-1) (-1)]).length = o.length + 1 := by simp
      rw [e1, e2, hun]
      simp only
      rw [rootB_room (by omega)]

/-- The whole. -/
theorem build_ok {r : RE} (hw : WF r) (hn : nds r ≤ 24) (hc : nds (child r) ≤ 31) : ∃ k, runB k ⟨[], [], [tkc r]⟩ = ⟨pl (child r) 0, [((nds (child r) : Nat) : Int) - 1], []⟩ := by
  have := OkB.child (okB r) (o := []) (rs := []) (W := []) hw (by simpa using hc) (by simp; omega) (by simp; omega)
  obtain ⟨k, hk⟩ := this
  exact ⟨k, by rw [hk]; simp [lay]⟩

end Go.Proofs.Qxb6500567aGreat
