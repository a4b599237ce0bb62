import Derived.Test.Qxb6500570aGreatPh
/- Plain: the end of an expression, with a flag for faults. -/
namespace Go.Proofs.Qxb6500570aGreat
set_option linter.unusedVariables false
set_option linter.unusedSimpArgs false

/-- Fault, was the token taken, arena, operands, marks, is an operand there, is all done. -/
structure CX where
  bad : Bool
  tak : Bool
  ar : List Nd
  ov : List Int
  os : List Mk
  hv : Bool
  dn : Bool
def shutX (m : Mk) (tk : Nat) (bad : Bool) (ar : List Nd) (ov : List Int) (os : List Mk) : CX :=
  if tk = 41 then
    (if m.k = 3 then ⟨(settleX os bad ar ov).1, true, (settleX os bad ar ov).2.1, (settleX os bad ar ov).2.2.1, (settleX os bad ar ov).2.2.2, true, false⟩
     else if arity m.o m.n = true then ⟨(wholeX (nCall m.o m.l m.n) bad ar ov os).1, true, (wholeX (nCall m.o m.l m.n) bad ar ov os).2.1, (wholeX (nCall m.o m.l m.n) bad ar ov os).2.2.1, (wholeX (nCall m.o m.l m.n) bad ar ov os).2.2.2, true, false⟩
     else ⟨true, true, ar, ov, os, true, false⟩)
  else ⟨true, false, ar, ov, m :: os, true, false⟩
def closeX (tk : Nat) (bad : Bool) (ar : List Nd) (ov : List Int) (os : List Mk) : CX := match os with
  | [] => ⟨bad || decide (tk ≠ 0), false, ar, ov, [], true, true⟩
  | m :: os' => if m.k = 4 then
        match ov with
        | v :: ov' => if tk = 44 then ⟨(addX bad ar (nArgI v m.l)).1, true, (addX bad ar (nArgI v m.l)).2.1, ov', ⟨4, m.o, m.n + 1, (addX bad ar (nArgI v m.l)).2.2⟩ :: os', false, false⟩
            else shutX ⟨4, m.o, m.n + 1, (addX bad ar (nArgI v m.l)).2.2⟩ tk (addX bad ar (nArgI v m.l)).1 (addX bad ar (nArgI v m.l)).2.1 ov' os'
        | [] => ⟨true, false, ar, ov, os, true, false⟩
      else shutX m tk bad ar ov os'

/-- The relation of the two at the end of a round. -/
def CR (o : Option (PS ⊕ List Nd)) (ts : List Tk) (x : CX) : Prop :=
  (x.bad = true ∧ o = none) ∨ (x.bad = false ∧ x.dn = false ∧ x.tak = true ∧ ∃ ov, x.ov = ci ov ∧ o = some (.inl ⟨ts.tail, x.ar, ov, x.os, x.hv⟩)) ∨ (x.bad = false ∧ x.dn = true ∧ x.tak = false ∧ o = some (.inr x.ar))

theorem shut_rel {m : Mk} {ts : List Tk} {ar : List Nd} {ov : List Nat} {os : List Mk} (h3 : m.k = 3 → ov.length = nb os + 1) (h4 : m.k ≠ 3 → arity m.o m.n = true → ov.length = nb os) : CR (shutP m ts ar ov os) ts (shutX m (hdT ts).k false ar (ci ov) os) := by
  unfold shutP shutX
  split
  · split
    · rename_i hk
      unfold settleS
      cases hs : settle os ar ov with
      | none => exact .inl ⟨settleX_none (h3 hk) hs, by simp⟩
      | some x =>
        have := settleX_some hs
        simp only [this]
        exact .inr (.inl ⟨rfl, rfl, rfl, x.2.1, rfl, by simp⟩)
    · rename_i hk
      split
      · rename_i ha
        cases hw : wholeP (nCall m.o m.l m.n) ts.tail ar ov os with
        | none => exact .inl ⟨wholeX_none (h4 hk ha) hw, by simp⟩
        | some st =>
          have := wholeX_some hw
          have ht := wholeP_ts hw
          simp only [this]
          refine .inr (.inl ⟨rfl, rfl, rfl, st.ov, rfl, ?_⟩)
          obtain ⟨a, b, c, d, e⟩ := st
          obtain ⟨rfl, rfl⟩ := ht
          simp
      · exact .inl ⟨rfl, rfl⟩
  · exact .inl ⟨rfl, rfl⟩
theorem addX_arg_some {ar ar' : List Nd} {v : Nat} {l : Int} (h : addN ar (nArg v l) = some ar') : addX false ar (nArgI v l) = (false, ar', (ar.length : Int)) := by
  obtain ⟨rfl, hlt⟩ := addN_ok h
  exact addX_lt hlt _
theorem addX_arg_none {ar : List Nd} {v : Nat} {l : Int} (h : addN ar (nArg v l) = none) : addX false ar (nArgI v l) = (true, ar, -1) := by
  refine addX_ge (fun hlt => ?_) _
  rw [addN_lt hlt] at h
  cases h
theorem shutX_bad {m : Mk} {tk : Nat} {ar : List Nd} {ov : List Int} {os : List Mk} : (shutX m tk true ar ov os).bad = true := by
  unfold shutX
  split
  · split
    · exact settleX_bad _ _ _
    · split
      · exact wholeX_bad _ _ _ _
      · rfl
  · rfl
theorem closeX_bad {tk : Nat} {ar : List Nd} {ov : List Int} {os : List Mk} : (closeX tk true ar ov os).bad = true := by
  unfold closeX
  split
  · rfl
  · split
    · split
      · split
        · rfl
        · exact shutX_bad
      · rfl
    · exact shutX_bad
theorem close_rel {ts : List Tk} {ar : List Nd} {ov : List Nat} {os : List Mk} (h : PT ar ov os) : CR (closeP ts ar ov os) ts (closeX (hdT ts).k false ar (ci ov) os) := by
  have hht := h.ht
  unfold closeP closeX
  split
  · by_cases h0 : (hdT ts).k = 0
    · rw [if_pos h0]
      exact .inr (.inr ⟨by simp [h0], rfl, rfl, rfl⟩)
    · rw [if_neg h0]
      exact .inl ⟨by simp [h0], rfl⟩
  · rename_i m os'
    by_cases hm : m.k = 4
    · simp only [if_pos hm]
      obtain ⟨h24, v, ov', lo, rfl, hv, hs, hk⟩ := h
      have hn : nb (m :: os') = nb os' := by simp [nb, hm]
      rw [hn] at hht
      simp only [ci, List.map_cons]
      cases ha : addN ar (nArg v m.l) with
      | none =>
        simp only [addX_arg_none ha]
        refine .inl ⟨?_, rfl⟩
        split
        · rfl
        · exact shutX_bad
      | some ar' =>
        simp only [addX_arg_some ha]
        by_cases h44 : (hdT ts).k = 44
        · rw [if_pos h44, if_pos h44]
          exact .inr (.inl ⟨rfl, rfl, rfl, ov', rfl, rfl⟩)
        · rw [if_neg h44, if_neg h44]
          exact shut_rel (m := ⟨4, m.o, m.n + 1, (ar.length : Int)⟩) (fun h => (by cases h)) (fun _ _ => by simpa using hht)
    · simp only [if_neg hm]
      refine shut_rel (fun h3 => ?_) (fun h3 ha => ?_)
      · have hn : nb (m :: os') = nb os' := by simp [nb, h3]
        omega
      · obtain ⟨h24, v, ov', lo, rfl, hv, hs, hk⟩ := h
        have hn0 : m.n = 0 := by
          rcases hk with ⟨_, h2, _⟩ | ⟨_, h2, _⟩ | ⟨_, h2, _⟩ | ⟨h1, -⟩
          · exact h2
          · exact h2
          · exact h2
          · exact absurd h1 hm
        rw [hn0, arity0] at ha
        cases ha

theorem SgF.cnt {ar : List Nd} : ∀ (f k lo i : Nat) (rg : Bool), SgF ar f true k lo i rg → k ≤ i := by
  intro f
  induction f with
  | zero => intro k lo i rg h; exact h.elim
  | succ f ih =>
    intro k lo i rg h
    obtain ⟨x, hx, h1, h2, h3, m, h4, h5, h6⟩ := h
    rcases h6 with h6 | ⟨h6, h7, h8, h9⟩
    · omega
    · have := ih _ _ _ _ h9
      omega
theorem Sl.cnt {ar : List Nd} {k lo i : Nat} {rg : Bool} (h : Sl ar k lo i rg) : k ≤ i := by obtain ⟨f, h⟩ := h; exact SgF.cnt _ _ _ _ _ h
/-- Marks that are no calls bear no count; no count is high. -/
def Mn (os : List Mk) : Prop := ∀ m ∈ os, (m.k ≠ 4 → m.n = 0) ∧ m.n ≤ 24
theorem Stk.mn {ar : List Nd} (hl : ar.length ≤ 24) : ∀ {os : List Mk} {ov : List Nat} {hi : Nat}, Stk ar os ov hi → Mn os
  | [], ov, hi, h => fun m hm => by simp at hm
  | x :: os, ov, hi, h => by
    intro m hm
    rcases List.mem_cons.1 hm with rfl | hm
    · rcases h with ⟨_, h2, _⟩ | ⟨_, h2, _⟩ | ⟨_, h2, _⟩ | ⟨h1, h2, h3, h4⟩
      · exact ⟨fun _ => h2, by omega⟩
      · exact ⟨fun _ => h2, by omega⟩
      · exact ⟨fun _ => h2, by omega⟩
      · refine ⟨fun h => absurd h1 h, ?_⟩
        rcases h4 with ⟨h5, _⟩ | ⟨_, l, lo, _, _, h7, _⟩
        · omega
        · have := h7.cnt
          have := h7.le
          omega
    · rcases h with ⟨_, _, h3⟩ | ⟨_, _, h3⟩ | ⟨_, _, _, _, v, ov', lo, _, _, _, h8⟩ | ⟨_, _, _, h4'⟩
      · exact h3.mn hl m hm
      · exact h3.mn hl m hm
      · exact h8.mn hl m hm
      · rcases h4' with ⟨_, _, h6⟩ | ⟨_, l, lo, _, _, _, h8⟩
        · exact h6.mn hl m hm
        · exact h8.mn hl m hm
theorem PT.mn {ar : List Nd} {ov : List Nat} {os : List Mk} (h : PT ar ov os) : Mn os := by
  obtain ⟨hl, v, ov', lo, _, _, _, hk⟩ := h
  exact hk.mn hl
theorem Mn.tail {m : Mk} {os : List Mk} (h : Mn (m :: os)) : Mn os := fun x hx => h x (by simp [hx])

/-- A byte that opens no token ends the machine. -/
theorem shut_char {m : Mk} {ts : List Tk} {ar : List Nd} {ov : List Nat} {os : List Mk} (h : (hdT ts).k = 1) : shutP m ts ar ov os = none := by
  unfold shutP
  rw [if_neg (by omega)]
theorem close_char {ts : List Tk} {ar : List Nd} {ov : List Nat} {os : List Mk} (h : (hdT ts).k = 1) : closeP ts ar ov os = none := by
  unfold closeP
  split
  · rw [if_neg (by omega)]
  · split
    · split
      · split
        · rw [if_neg (by omega)]; exact shut_char h
        · rfl
      · rfl
    · exact shut_char h
theorem after_char {ts : List Tk} {ar : List Nd} {ov : List Nat} {os : List Mk} (h : (hdT ts).k = 1) : after0 (tkS (hdT ts)) ts ar ov os = none := by
  have hs : tkS (hdT ts) = 0 := by unfold tkS; rw [if_neg (by omega)]
  rw [hs]
  have h2 : ∀ ar ov os, after2 0 ts ar ov os = none := fun ar ov os => close_char h
  have h1 : ∀ ar ov os, after1 0 ts ar ov os = none := by
    intro ar ov os
    unfold after1
    split
    · split
      · split
        · exact h2 _ _ _
        · rfl
      · exact h2 _ _ _
    · exact h2 _ _ _
  unfold after0
  split
  · split
    · split
      · exact h1 _ _ _
      · rfl
    · exact h1 _ _ _
  · exact h1 _ _ _

end Go.Proofs.Qxb6500570aGreat
