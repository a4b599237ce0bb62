import Derived.Test.Qxb6500568aGreatDoorLj
namespace Go.Proofs.Qxb6500568aGreatDoor
open Ieee
set_option linter.unusedVariables false
set_option linter.unusedSimpArgs false
set_option linter.unusedSectionVars false

/-! The interpreter's step, the thread at hand taken apart; silent steps of the machine; advancing. -/

def mkI (i : IS) (x : ITh) (T : List Tk) (V : List PV) : IS := { i with ths := i.ths.set i.cur { x with tasks := T, vals := V } }
/-- a numeric loop's next round is the task at hand. -/
def h17 (s : IS) : Bool := match s.th.tasks with | [] => false | t :: _ => decide (t.k = 17 ∨ t.k = 19 ∨ t.k = 23)
/-- at most n further steps: none at the run's end, none where the values matter. -/
def stepC (G : Arena) (root : Nat) : Nat → IS → IS
  | 0, i => i
  | n + 1, i => if i.done = true ∨ h17 i = true then i else stepC G root n (istep G root i)
def stepN (G : Arena) (root : Nat) : Nat → IS → IS
  | 0, i => i
  | n + 1, i => if i.done then i else stepC G root n (istep G root i)
theorem stepN_one {G : Arena} {root : Nat} {i : IS} (h : i.done = false) : stepN G root 1 i = istep G root i := by simp [stepN, stepC, h]
theorem stepN_succ {G : Arena} {root : Nat} {i : IS} (h : i.done = false) (n : Nat) : stepN G root (n + 1) i = stepC G root n (istep G root i) := by simp [stepN, h]
theorem stepC_succ {G : Arena} {root : Nat} {i : IS} (h : i.done = false) (h2 : h17 i = false) (n : Nat) : stepC G root (n + 1) i = stepC G root n (istep G root i) := by simp [stepC, h, h2]

section
variable {i : IS} {x : ITh} {T : List Tk} {V : List PV}
theorem mkI_self (hx : i.ths[i.cur]? = some x) (ht : x.tasks = T) (hv : x.vals = V) : mkI i x T V = i := by
  unfold mkI
  have : ({ x with tasks := T, vals := V } : ITh) = x := by rw [← ht, ← hv]
  rw [this]
  obtain ⟨hl, he⟩ := List.getElem?_eq_some_iff.1 hx
  rw [← he, List.set_getElem_self]
theorem mkI_th (hc : i.cur < i.ths.length) : (mkI i x T V).th = { x with tasks := T, vals := V } := by
  unfold IS.th mkI; simp [List.getD_eq_getElem?_getD, hc]
theorem mkI_setT (hc : i.cur < i.ths.length) (t : ITh) : (mkI i x T V).setT t = { i with ths := i.ths.set i.cur t } := by
  unfold IS.setT mkI; simp
theorem mkI_push (hc : i.cur < i.ths.length) (v : PV) : ipush v (mkI i x T V) = mkI i x T (v :: V) := by
  unfold ipush; rw [mkI_th hc, mkI_setT hc]; rfl
theorem mkI_do (hc : i.cur < i.ths.length) (k n z e : Nat) : ido k n z e (mkI i x T V) = mkI i x (⟨k, n, z, e⟩ :: T) V := by
  unfold ido; rw [mkI_th hc, mkI_setT hc]; rfl
theorem mkI_drop (hc : i.cur < i.ths.length) (k : Nat) : idrop k (mkI i x T V) = mkI i x T (V.drop k) := by
  unfold idrop; rw [mkI_th hc, mkI_setT hc]; rfl
theorem mkI_top (hc : i.cur < i.ths.length) (k : Nat) : (mkI i x T V).top k = V.getD k vNil := by
  unfold IS.top; rw [mkI_th hc]
theorem mkI_tasks (hc : i.cur < i.ths.length) (T' : List Tk) : (mkI i x T V).setT { (mkI i x T V).th with tasks := T' } = mkI i x T' V := by
  rw [mkI_th hc, mkI_setT hc]; rfl
theorem istep_mk (hc : i.cur < i.ths.length) (G : Arena) (root : Nat) (t : Tk) : istep G root (mkI i x (t :: T) V) = istep1 G root t (mkI i x (t :: T) V) (mkI i x T V) := by
  unfold istep
  rw [mkI_th hc]
  show istep1 G root t (mkI i x (t :: T) V) ((mkI i x (t :: T) V).setT { x with tasks := T, vals := V }) = _
  rw [mkI_setT hc]
  rfl
end

section
variable (G : Arena) (root : Nat) (Ps : List Proto) (Fs : Nat → FI)
/-- both at one place again, or both at the run's end with one answer. -/
def Rel (i : IS) (a : AS) : Prop := (∃ ρ, Sim G root Ps Fs i a ρ) ∨ (i.done = true ∧ a.done = true ∧ i.ans = a.ans)
def Adv (i : IS) (a : AS) : Prop := ∃ n a', Go Ps a a' ∧ Rel G root Ps Fs (stepN G root (n + 1) i) a'
end

section
variable {G : Arena} {root : Nat} {Ps : List Proto} {Fs : Nat → FI} {i : IS} {a : AS} {ρ : List Nat} {x : ITh} {y : ATh} {f : AFr} {fs : List AFr} {seg ts : List Tk} {vs vals : List PV} {p j : Nat} {ids : List Nat} {od : List (Str × Nat)} {L : List Str} {hid : List Nat} {lc : List (Nat × Nat)} {fl : List (Nat × Nat)}

/-- a frame in hand, with all that is known of it. -/
structure Hd (G : Arena) (root : Nat) (Ps : List Proto) (Fs : Nat → FI) (i : IS) (a : AS) (ρ : List Nat) (x : ITh) (y : ATh) (f : AFr) (fs : List AFr) (seg ts : List Tk) (vs vals : List PV) (p j : Nat) (ids : List Nat) (od : List (Str × Nat)) (L : List Str) (hid : List Nat) (fl : List (Nat × Nat)) : Prop where
  S : Sim G root Ps Fs i a ρ
  V : Vw G Ps Fs i a ρ x y f fs seg ts vs vals p
  hk : a.clos[f.clo]? = some (j, ids)
  U : UpD Fs j ids od
  D : FrD Ps a.vars a.tabs ρ f.slots j L hid fl f.ops vs
  o : f.ops.length ≤ 128

theorem Hd.hic (H : Hd G root Ps Fs i a ρ x y f fs seg ts vs vals p j ids od L hid fl) : i.cur < i.ths.length := H.S.curlt
theorem Hd.hac (H : Hd G root Ps Fs i a ρ x y f fs seg ts vs vals p j ids od L hid fl) : a.cur < a.ths.length := by rw [← H.S.cur, ← H.S.tlen]; exact H.S.curlt
theorem Hd.ai (H : Hd G root Ps Fs i a ρ x y f fs seg ts vs vals p j ids od L hid fl) : mkA a y fs f a.vars = a := mk_self H.V.hy H.V.hf
theorem Hd.ii (H : Hd G root Ps Fs i a ρ x y f fs seg ts vs vals p j ids od L hid fl) : mkI i x (seg ++ ⟨3, p, vals.length, 0⟩ :: ts) (vs ++ vals) = i := mkI_self H.V.hx H.V.ht H.V.hv
theorem Hd.slt (H : Hd G root Ps Fs i a ρ x y f fs seg ts vs vals p j ids od L hid fl) : ∀ s ∈ f.slots, s < a.vars.length := fun s hs => H.S.sl s (mem_slots H.V.hy (by rw [H.V.hf]; simp) hs)
theorem Hd.snd (H : Hd G root Ps Fs i a ρ x y f fs seg ts vs vals p j ids od L hid fl) : f.slots.Nodup := by
  have h := (slots_self H.V.hy).nodup_iff.1 H.S.sn
  rw [H.V.hf] at h
  have : frSl (f :: fs) = f.slots ++ frSl fs := by simp [frSl]
  rw [this] at h
  exact (List.nodup_append.1 (List.nodup_append.1 h).1).1

/-- what is known of operands stands. -/
def OpSame (fl : List (Nat × Nat)) (ops ops' : List PV) : Prop := ∀ p ∈ fl, p.2 = 2 → ops'.reverse[p.1]? = ops.reverse[p.1]?
theorem OpSame.refl (fl : List (Nat × Nat)) (ops : List PV) : OpSame fl ops ops := fun _ _ _ => rfl
theorem OpSame.of {fl : List (Nat × Nat)} {l : List PV} (h : OpLt l.length fl) (d n : List PV) : OpSame fl (d ++ l) (n ++ l) := fun p hp hq => by
  have := h p hp hq
  rw [List.reverse_append, List.reverse_append, List.getElem?_append_left (by simpa using this), List.getElem?_append_left (by simpa using this)]
theorem FlD.ops {vars : List PV} {tabs : List Tb} {sl : List Nat} {ops ops' : List PV} {p : Nat × Nat} (h : FlD vars tabs sl ops p) (ho : p.2 = 2 → ops'.reverse[p.1]? = ops.reverse[p.1]?) : FlD vars tabs sl ops' p := by
  unfold FlD at h ⊢
  split
  · rename_i h1; rw [if_pos h1] at h; exact h
  · rename_i h1
    rw [if_neg h1] at h
    split
    · rename_i h2; rw [if_pos h2] at h; rw [ho h2]; exact h
    · rename_i h2; rw [if_neg h2] at h; exact h
theorem FrD.re {vars : List PV} {tabs : List Tb} {sl : List Nat} {ops ops' vs : List PV} (h : FrD Ps vars tabs ρ sl j L hid fl ops vs) (ho : OpSame fl ops ops') : FrD Ps vars tabs ρ sl j L hid fl ops' (ops' ++ hid.map fun s => vars.getD (sl.getD s 0) vNil) :=
  ⟨rfl, fun p hp => ⟨(h.f p hp).1.ops (ho p hp), (h.f p hp).2⟩, h.n, h.l, h.r⟩

theorem Ext.same (es : List Env) (ρ : List Nat) (vars : List PV) (clos : List (Nat × List Nat)) (tabs : List Tb) (M : Nat → Prop) : Ext es ρ vars clos tabs es ρ vars clos tabs M :=
  ⟨EnvExt.refl _, fun _ _ => rfl, fun _ h => .inl h, fun _ _ _ _ => rfl, fun _ _ h => h, TabExt.refl _⟩

/-- only the tasks, the values, the operands and the place turn. -/
theorem Hd.re (H : Hd G root Ps Fs i a ρ x y f fs seg ts vs vals p j ids od L hid fl) {ops' : List PV} {pc' : Nat} {seg' : List Tk} {L' : List Str} {hid' : List Nat} {lc' : List (Nat × Nat)} {fl' : List (Nat × Nat)}
    (hK : K G Ps Fs (Bd i.envs ρ) f.slots od vals.length j false pc' seg' ops'.length L' hid' lc' fl') (hD : FrD Ps a.vars a.tabs ρ f.slots j L' hid' fl' ops' (ops' ++ hid'.map fun s => a.vars.getD (f.slots.getD s 0) vNil)) (ho : ops'.length ≤ 128) (nr : ∀ t ∈ seg', t.k ≠ 3) :
    Hd G root Ps Fs (mkI i x (seg' ++ ⟨3, p, vals.length, 0⟩ :: ts) ((ops' ++ hid'.map fun s => a.vars.getD (f.slots.getD s 0) vNil) ++ vals)) (mkA a y fs { f with ops := ops', pc := pc' } a.vars) ρ
      { x with tasks := seg' ++ ⟨3, p, vals.length, 0⟩ :: ts, vals := (ops' ++ hid'.map fun s => a.vars.getD (f.slots.getD s 0) vNil) ++ vals } { y with frs := { f with ops := ops', pc := pc' } :: fs } { f with ops := ops', pc := pc' } fs seg' ts (ops' ++ hid'.map fun s => a.vars.getD (f.slots.getD s 0) vNil) vals p j ids od L' hid' fl' := by
  obtain ⟨S', V'⟩ := H.S.upd (i' := mkI i x (seg' ++ ⟨3, p, vals.length, 0⟩ :: ts) ((ops' ++ hid'.map fun s => a.vars.getD (f.slots.getD s 0) vNil) ++ vals)) (a' := mkA a y fs { f with ops := ops', pc := pc' } a.vars) (ρ' := ρ) (f' := { f with ops := ops', pc := pc' })
    H.V rfl rfl rfl rfl rfl rfl H.S.fuel H.S.first H.S.out H.S.tabs H.S.di H.S.da (Ext.same _ _ _ _ _ _) ⟨j, ids, od, L', hid', lc', fl', H.hk, H.U, hK, hD, ho⟩ rfl H.snd (fun s hs => ⟨.inl hs, H.slt s hs⟩) (Nat.le_refl _) H.S.rlen H.S.rnd H.S.rval H.S.clen (fun c n e h => .inl h) nr
  exact ⟨S', V', H.hk, H.U, hD, ho⟩

/-- one step of the interpreter, some of the machine; nothing but the stacks turns. -/
theorem Hd.adv0 (H : Hd G root Ps Fs i a ρ x y f fs seg ts vs vals p j ids od L hid fl) {ops' : List PV} {pc' : Nat} {seg' : List Tk} {L' : List Str} {hid' : List Nat} {lc' : List (Nat × Nat)} {fl' : List (Nat × Nat)}
    (hI : istep G root i = mkI i x (seg' ++ ⟨3, p, vals.length, 0⟩ :: ts) ((ops' ++ hid'.map fun s => a.vars.getD (f.slots.getD s 0) vNil) ++ vals)) (hA : Go Ps a (mkA a y fs { f with ops := ops', pc := pc' } a.vars))
    (hK : K G Ps Fs (Bd i.envs ρ) f.slots od vals.length j false pc' seg' ops'.length L' hid' lc' fl') (hD : FrD Ps a.vars a.tabs ρ f.slots j L' hid' fl' ops' (ops' ++ hid'.map fun s => a.vars.getD (f.slots.getD s 0) vNil)) (ho : ops'.length ≤ 128) (nr : ∀ t ∈ seg', t.k ≠ 3) : Adv G root Ps Fs i a := by
  have h := H.re hK hD ho nr
  exact ⟨0, _, hA, .inl ⟨ρ, by rw [stepN_one H.S.di, hI]; exact h.S⟩⟩
end

end Go.Proofs.Qxb6500568aGreatDoor
