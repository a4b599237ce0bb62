import Derived.Test.Qxb6500568aGreatDoorLw
namespace Go.Proofs.Qxb6500568aGreatDoor
open Ieee
set_option linter.unusedVariables false
set_option linter.unusedSimpArgs false
set_option linter.unusedSectionVars false

/-! One statement begins. -/

section
variable {G : Arena} {root : Nat} {Ps : List Proto} {Fs : Nat → FI} {i : IS} {a : AS} {ρ : List Nat} {x : ITh} {y : ATh} {f : AFr} {fs : List AFr} {seg ts : List Tk} {vs vals : List PV} {p j : Nat} {ids : List Nat} {od : List (Str × Nat)} {L : List Str} {hid : List Nat} {lc : List (Nat × Nat)} {fl : List (Nat × Nat)} {t : Tk}

/-- the instruction that makes a closure, in a scope of the frame. -/
theorem Hd.closA (H : Hd G root Ps Fs i a ρ x y f fs seg ts vs vals p j ids od L hid fl) {L' : List Str} {k : Nat} {ps : List Str} {body : Nat → Prop} (hL : L'.length ≤ (pr Ps j).ns) (hc : cod Ps j f.pc = some (28, k)) (hC : CF Ps Fs j L' k ps body) (hd : f.ops.length + 1 ≤ 128) :
    Snd Ps a 28 k ∧ UpD Fs k (aups (mkA a y fs f a.vars) (pr Ps k).ups) (Dy f.slots od L') ∧
    astep Ps a = if 24 ≤ a.clos.length then afin 8 [45] a else { mkA a y fs { f with ops := vFun a.clos.length :: f.ops, pc := f.pc + 1 } a.vars with clos := a.clos ++ [(k, aups (mkA a y fs f a.vars) (pr Ps k).ups)] } := by
  obtain ⟨ho, hup, hk1, hk0, hnp, hns, hne, hp3, z, hz, hz0, hz1, hz2, -⟩ := hC
  refine ⟨H.sound hc (rng28 ⟨hk1, fun d hd => ?_⟩) (by simp [needO]) (fun _ => by omega) (by simp), ?_, ?_⟩
  · obtain ⟨u, hu⟩ := List.mem_iff_getElem?.1 hd
    obtain ⟨k', x'⟩ := d
    rcases hup.2 u k' x' hu with ⟨h1, q, nm, h2, h3⟩ | ⟨h1, q, h2, h3⟩
    · left
      refine ⟨h1, ?_⟩
      have := (vis_mem (List.mem_of_getElem? h2)).1
      have h4 := (List.getElem?_eq_some_iff.1 this).1
      rw [H.pro]; show x' < _; simp only at h4; omega
    · right
      refine ⟨h1, ?_⟩
      have h4 := (List.getElem?_eq_some_iff.1 h2).1
      rw [H.idse, H.U.2.1]; exact h4
  · refine ⟨?_, ?_, fun u q hq => ?_⟩
    · rw [ho]; unfold Dy; rw [List.map_append, List.map_map, H.U.1]; rfl
    · unfold aups; rw [List.length_map]; exact hup.1
    · have hul : u < (pr Ps k).ups.length := by rw [hup.1]; exact (List.getElem?_eq_some_iff.1 hq).1
      obtain ⟨⟨k', x'⟩, hd⟩ : ∃ d, (pr Ps k).ups[u]? = some d := ⟨_, List.getElem?_eq_getElem hul⟩
      have hget : (aups (mkA a y fs f a.vars) (pr Ps k).ups)[u]? = some (if k' = 1 then f.slots.getD x' 0 else ids.getD x' 0) := by
        unfold aups; rw [List.getElem?_map, hd]; simp only [Option.map_some, mk_slot H.hac, mk_up H.hac H.hk]
      rw [hget]
      rcases hup.2 u k' x' hd with ⟨h1, q', nm, h2, h3⟩ | ⟨h1, q', h2, h3⟩
      · rw [h3] at hq
        have he := Option.some.inj hq
        subst he
        refine ⟨_, nm, rfl, ?_⟩
        unfold Dy
        rw [List.getElem?_append_left (by rw [List.length_map]; exact (List.getElem?_eq_some_iff.1 h2).1), List.getElem?_map, h2]
        simp [h1]
      · rw [h3] at hq
        have he := Option.some.inj hq
        subst he
        obtain ⟨v, nm, h4, h5⟩ := H.U.2.2 x' q' h2
        refine ⟨_, nm, rfl, ?_⟩
        unfold Dy
        rw [List.getElem?_append_right (by rw [List.length_map]; omega), List.length_map, Nat.add_sub_cancel_left, h5]
        simp only [h1, Nat.zero_ne_one, if_false]
        rw [getD_of h4]
  · rw [H.plain hc (by omega) (by omega) (by omega) (by omega) (by omega) (by omega)]
    have hcl : (mkA a y fs f a.vars).clos = a.clos := rfl
    unfold aplain
    simp only [mk_fr H.hac, hcl, Nat.reduceEqDiff, if_false, if_true]
    split
    · rw [H.ai]
    · have e1 : ({ mkA a y fs f a.vars with clos := a.clos ++ [(k, aups (mkA a y fs f a.vars) (Ps.getD k Proto.zero).ups)] } : AS) = mkA { a with clos := a.clos ++ [(k, aups (mkA a y fs f a.vars) (Ps.getD k Proto.zero).ups)] } y fs f a.vars := rfl
      rw [e1, mk_fr (a := { a with clos := a.clos ++ [(k, aups (mkA a y fs f a.vars) (Ps.getD k Proto.zero).ups)] }) H.hac, mk_ops (a := { a with clos := a.clos ++ [(k, aups (mkA a y fs f a.vars) (Ps.getD k Proto.zero).ups)] }) H.hac, mk_pc (a := { a with clos := a.clos ++ [(k, aups (mkA a y fs f a.vars) (Ps.getD k Proto.zero).ups)] }) H.hac]
      rfl

theorem modify_last {α : Type} (g : α → α) (z : α) : ∀ (l : List α), (l ++ [z]).modify l.length g = l ++ [g z]
  | [] => rfl
  | w :: l => by simp only [List.cons_append, List.length_cons, List.modify_succ_cons]; rw [modify_last g z l]
theorem stepN2 {s s1 s2 : IS} (d : s.done = false) (h1 : istep G root s = s1) (d1 : s1.done = false) (q1 : h17 s1 = false) (h2 : istep G root s1 = s2) : stepN G root 2 s = s2 := by rw [stepN_succ d, h1, stepC_succ d1 q1, h2]; rfl
theorem stepN3 {s s1 s2 s3 : IS} (d : s.done = false) (h1 : istep G root s = s1) (d1 : s1.done = false) (q1 : h17 s1 = false) (h2 : istep G root s1 = s2) (d2 : s2.done = false) (q2 : h17 s2 = false) (h3 : istep G root s2 = s3) : stepN G root 3 s = s3 := by rw [stepN_succ d, h1, stepC_succ d1 q1, h2, stepC_succ d2 q2, h3]; rfl
theorem h17_mk {t : Tk} {T : List Tk} {V : List PV} (hc : i.cur < i.ths.length) (ht : t.k ≠ 17 ∧ t.k ≠ 19 ∧ t.k ≠ 23) : h17 (mkI i x (t :: T) V) = false := by
  unfold h17; rw [mkI_th hc]; simp [ht]

/-- local function. -/
theorem Hd.locFn {n e k b : Nat} {s : Str} {ps : List Str} {bd l : StL} {L0 : List Str} (H : Hd G root Ps Fs i a ρ x y f fs (⟨1, n, 0, e⟩ :: seg) ts vs vals p j ids od L hid fl) (hS : IsS G n (.locFn s k ps bd)) (hE : IsSL G (nd G n).Nx l) (hB : Bd i.envs ρ e (Dy f.slots od L)) (hs : s ≠ []) (hc : cod Ps j f.pc = some (28, k)) (hC : CF Ps Fs j (L ++ [s]) k ps (fun z => CB Ps Fs k ps ps [] bd 0 z)) (hc2 : cod Ps j (f.pc + 1) = some (6, L.length))
    (hl : L.length + 1 ≤ (pr Ps j).ns) (hCB : CB Ps Fs j L0 (L ++ [s]) lc l (f.pc + 2) b) (hp : L0 <+: L) (hbk : BK G Ps Fs (Bd i.envs ρ) f.slots od vals.length j lc seg L0 hid fl) (hK : KK G Ps Fs i ρ f od vals j false b seg 0 L0 hid lc fl) (hm : f.ops.length = 0) : Adv G root Ps Fs i a := by
  have ho : f.ops = [] := List.eq_nil_of_length_eq_zero hm
  simp only [IsS_loc, IsS_locV, IsS_loc2, IsS_locFn, IsS_setN, IsS_setI, IsS_call, IsS_iff, IsS_whl, IsS_for2, IsS_for3, IsS_forIn, IsS_ret0, IsS_ret1, IsS_ret2, IsS_brk] at hS
  obtain ⟨m0, m1, m2, m3, m4, m5, m6, m7⟩ := hS
  obtain ⟨hsn, hU, hA⟩ := H.closA (L' := L ++ [s]) (by simpa using hl) hc hC (by omega)
  obtain ⟨ho2, hup, hk1, hk0, hnp, hns, hne, hp3, z, hz, hz0, hz1, hz2, -⟩ := hC
  have e0 : ∀ (E : List Env) (T : List Tk) (V : List PV), ({ mkI i x T V with envs := E } : IS) = mkI { i with envs := E } x T V := fun _ _ _ => rfl
  -- the three steps
  have h1 : istep G root i = mkI { i with envs := i.envs ++ [⟨s, vNil, e⟩] } x (⟨2, (nd G n).A, 0, i.envs.length + 1⟩ :: ⟨8, n, 0, i.envs.length + 1⟩ :: (seg ++ ⟨3, p, vals.length, 0⟩ :: ts)) (vs ++ vals) := by
    rw [H.is]
    simp only [istep1, istmt, m1, inew, IS.last, m2]
    simp only [Nat.reduceEqDiff, if_false, if_true, m0, ne_eq, not_false_eq_true]
    have e1 : ({ mkI i x (seg ++ ⟨3, p, vals.length, 0⟩ :: ts) (vs ++ vals) with envs := (mkI i x (seg ++ ⟨3, p, vals.length, 0⟩ :: ts) (vs ++ vals)).envs ++ [⟨s, vNil, e⟩] } : IS) = mkI { i with envs := i.envs ++ [⟨s, vNil, e⟩] } x (seg ++ ⟨3, p, vals.length, 0⟩ :: ts) (vs ++ vals) := rfl
    rw [e1, mkI_do (i := { i with envs := i.envs ++ [⟨s, vNil, e⟩] }) H.hic, mkI_do (i := { i with envs := i.envs ++ [⟨s, vNil, e⟩] }) H.hic]
    simp [mkI]
  have h2 : istep G root (mkI { i with envs := i.envs ++ [⟨s, vNil, e⟩] } x (⟨2, (nd G n).A, 0, i.envs.length + 1⟩ :: ⟨8, n, 0, i.envs.length + 1⟩ :: (seg ++ ⟨3, p, vals.length, 0⟩ :: ts)) (vs ++ vals)) =
      if 24 ≤ a.clos.length then ifin 8 [45] (mkI { i with envs := i.envs ++ [⟨s, vNil, e⟩] } x (⟨8, n, 0, i.envs.length + 1⟩ :: (seg ++ ⟨3, p, vals.length, 0⟩ :: ts)) (vs ++ vals)) else mkI { i with envs := i.envs ++ [⟨s, vNil, e⟩], clos := i.clos ++ [((nd G n).A, i.envs.length + 1)] } x (⟨8, n, 0, i.envs.length + 1⟩ :: (seg ++ ⟨3, p, vals.length, 0⟩ :: ts)) (vFun a.clos.length :: (vs ++ vals)) := by
    rw [istep_mk (i := { i with envs := i.envs ++ [⟨s, vNil, e⟩] }) H.hic]
    have hcl : (mkI { i with envs := i.envs ++ [⟨s, vNil, e⟩] } x (⟨8, n, 0, i.envs.length + 1⟩ :: (seg ++ ⟨3, p, vals.length, 0⟩ :: ts)) (vs ++ vals)).clos = i.clos := rfl
    simp only [istep1, ieval]
    simp only [Nat.reduceEqDiff, if_false, if_true, m3, m4, hcl, H.S.clen]
    split
    · rfl
    · exact mkI_push (i := { i with envs := i.envs ++ [⟨s, vNil, e⟩], clos := i.clos ++ [((nd G n).A, i.envs.length + 1)] }) H.hic _
  by_cases hf : 24 ≤ a.clos.length
  · rw [if_pos hf] at h2 hA
    refine ⟨1, astep Ps a, .one hsn, ?_⟩
    rw [stepN2 H.S.di h1 H.S.di (h17_mk (i := { i with envs := i.envs ++ [⟨s, vNil, e⟩] }) H.hic (by simp)) h2, hA]
    exact fin_rel (s := mkI { i with envs := i.envs ++ [⟨s, vNil, e⟩] } x (⟨8, n, 0, i.envs.length + 1⟩ :: (seg ++ ⟨3, p, vals.length, 0⟩ :: ts)) (vs ++ vals)) (t := a) H.S.fuel H.S.first H.S.out _ _
  · rw [if_neg hf] at h2 hA
    have h3 : istep G root (mkI { i with envs := i.envs ++ [⟨s, vNil, e⟩], clos := i.clos ++ [((nd G n).A, i.envs.length + 1)] } x (⟨8, n, 0, i.envs.length + 1⟩ :: (seg ++ ⟨3, p, vals.length, 0⟩ :: ts)) (vFun a.clos.length :: (vs ++ vals))) =
        mkI { i with envs := i.envs ++ [⟨s, vFun a.clos.length, e⟩], clos := i.clos ++ [((nd G n).A, i.envs.length + 1)] } x (⟨1, (nd G n).Nx, 0, i.envs.length + 1⟩ :: (seg ++ ⟨3, p, vals.length, 0⟩ :: ts)) (vs ++ vals) := by
      rw [istep_mk (i := { i with envs := i.envs ++ [⟨s, vNil, e⟩], clos := i.clos ++ [((nd G n).A, i.envs.length + 1)] }) H.hic]
      simp only [istep1, Nat.reduceEqDiff, if_false, if_true]
      rw [mkI_drop (i := { i with envs := i.envs ++ [⟨s, vNil, e⟩], clos := i.clos ++ [((nd G n).A, i.envs.length + 1)] }) H.hic, mkI_top (i := { i with envs := i.envs ++ [⟨s, vNil, e⟩], clos := i.clos ++ [((nd G n).A, i.envs.length + 1)] }) H.hic]
      have e1 : setE (i.envs.length + 1) ((vFun a.clos.length :: (vs ++ vals)).getD 0 vNil) (mkI { i with envs := i.envs ++ [⟨s, vNil, e⟩], clos := i.clos ++ [((nd G n).A, i.envs.length + 1)] } x (seg ++ ⟨3, p, vals.length, 0⟩ :: ts) ((vFun a.clos.length :: (vs ++ vals)).drop 1)) = mkI { i with envs := i.envs ++ [⟨s, vFun a.clos.length, e⟩], clos := i.clos ++ [((nd G n).A, i.envs.length + 1)] } x (seg ++ ⟨3, p, vals.length, 0⟩ :: ts) (vs ++ vals) := by
        unfold setE mkI
        simp only [Nat.add_sub_cancel, List.drop_succ_cons, List.drop_zero, List.getD_cons_zero]
        congr 1
        exact modify_last _ _ _
      rw [e1, mkI_do (i := { i with envs := i.envs ++ [⟨s, vFun a.clos.length, e⟩], clos := i.clos ++ [((nd G n).A, i.envs.length + 1)] }) H.hic]
    obtain ⟨ρ', S', hB'⟩ := H.bind1 (v := vFun a.clos.length) (pc' := f.pc + 2) (seg' := seg) hs (by omega) (hK.hidden.pre hp) hK.oplt hB hE hCB (hp.trans (List.prefix_append _ _)) hbk hK (nr_tl H.V.nr)
    have S2 := S'.closE (n := (nd G n).A) (e := i.envs.length + 1) hU hB' ⟨ps, bd, z, m6, by rw [if_neg m3]; exact m7, hnp, hns, hne, hp3, hz, hz0, hz1, hz2⟩
    have hg := go_setl (Ps := Ps) (a := { a with clos := a.clos ++ [(k, aups (mkA a y fs f a.vars) (pr Ps k).ups)] }) (y := y) (fs := fs) (f := { f with ops := vFun a.clos.length :: f.ops, pc := f.pc + 1 }) (vars := a.vars) (v := vFun a.clos.length) (l := []) H.hac H.S.da (getElem_app_some H.hk) (by rw [ho]) hc2 (by omega) (by simp [ho])
    refine ⟨2, _, .step hsn (by rw [hA]; exact hg), .inl ⟨ρ', ?_⟩⟩
    rw [stepN3 H.S.di h1 H.S.di (h17_mk (i := { i with envs := i.envs ++ [⟨s, vNil, e⟩] }) H.hic (by simp)) h2 H.S.di (h17_mk (i := { i with envs := i.envs ++ [⟨s, vNil, e⟩], clos := i.clos ++ [((nd G n).A, i.envs.length + 1)] }) H.hic (by simp)) h3]
    have e1 : vs = hvs a.vars f.slots hid := by rw [H.vv, ho]; rfl
    rw [e1]
    exact S2

theorem brkL_app : ∀ {T : List Tk} {X : List Tk} {q : Tk} {r : List Tk}, brkL T = some (q, r) → brkL (T ++ X) = some (q, r ++ X)
  | t :: T, X, q, r, h => by
    simp only [List.cons_append, brkL] at h ⊢
    split
    · rename_i h4; rw [if_pos h4] at h; cases h; rfl
    · rename_i h4; rw [if_neg h4] at h; exact brkL_app h
theorem brkL_nr : ∀ {T : List Tk} {q : Tk} {r : List Tk}, brkL T = some (q, r) → (∀ t ∈ T, t.k ≠ 3) → ∀ t ∈ r, t.k ≠ 3
  | t :: T, q, r, h, hn => by
    simp only [brkL] at h
    split at h
    · cases h; exact fun u hu => hn u (by simp [hu])
    · exact brkL_nr h (fun u hu => hn u (by simp [hu]))
theorem suffix_hvs {vars : List PV} {sl h h0 : List Nat} (hs : h0 <:+ h) (V : List PV) : cutTo (V.length + h0.length) (hvs vars sl h ++ V) = hvs vars sl h0 ++ V := by
  obtain ⟨r, rfl⟩ := hs
  have e1 : hvs vars sl (r ++ h0) ++ V = hvs vars sl r ++ (hvs vars sl h0 ++ V) := by simp [hvs]
  rw [e1, show V.length + h0.length = (hvs vars sl h0 ++ V).length by simp [hvs, Nat.add_comm], cutTo_app]

/-- break. -/
theorem Hd.brk {n e b : Nat} {L0 : List Str} (H : Hd G root Ps Fs i a ρ x y f fs (⟨1, n, 0, e⟩ :: seg) ts vs vals p j ids od L hid fl) (hS : IsS G n .brk) (hC : CS Ps Fs j L lc .brk f.pc b) (hp : L0 <+: L) (hbk : BK G Ps Fs (Bd i.envs ρ) f.slots od vals.length j lc seg L0 hid fl) (hm : f.ops.length = 0) : Adv G root Ps Fs i a := by
  have ho : f.ops = [] := List.eq_nil_of_length_eq_zero hm
  simp only [IsS_loc, IsS_locV, IsS_loc2, IsS_locFn, IsS_setN, IsS_setI, IsS_call, IsS_iff, IsS_whl, IsS_for2, IsS_for3, IsS_forIn, IsS_ret0, IsS_ret1, IsS_ret2, IsS_brk] at hS
  simp only [CS_loc, CS_locV, CS_loc2, CS_locFn, CS_setN, CS_setI, CS_call, CS_iff, CS_whl, CS_for2, CS_for3, CS_forIn, CS_ret0, CS_ret1, CS_ret2, CS_brk] at hC
  obtain ⟨m, z, r, rfl, hC⟩ := hC
  have hbk' := hbk.pre hp
  rcases hbk'.inv with h | ⟨_, _, _, T', h0, f0, he, q1, q2, q3, q4, q5⟩
  · cases h
  · cases he
    have nr := nr_tl H.V.nr
    have hvs0 : vs = hvs a.vars f.slots hid := by rw [H.vv, ho]; rfl
    have hI : istep G root i = mkI i x (T' ++ ⟨3, p, vals.length, 0⟩ :: ts) (hvs a.vars f.slots h0 ++ vals) := by
      rw [H.is]
      simp only [istep1, istmt, hS.2]
      simp only [Nat.reduceEqDiff, if_false, if_true, hS.1, ne_eq, not_false_eq_true]
      rw [mkI_do H.hic, mkI_th H.hic]
      have e1 : brkL (⟨1, (nd G n).Nx, 0, e⟩ :: (seg ++ ⟨3, p, vals.length, 0⟩ :: ts)) = some (⟨4, 0, vals.length + h0.length, 0⟩, T' ++ ⟨3, p, vals.length, 0⟩ :: ts) := by
        have := brkL_app (X := ⟨3, p, vals.length, 0⟩ :: ts) q1
        simp only [brkL]
        rw [if_neg (by decide)]
        exact this
      simp only [e1]
      rw [mkI_setT H.hic]
      have e2 : cutTo (vals.length + h0.length) (vs ++ vals) = hvs a.vars f.slots h0 ++ vals := by rw [hvs0]; exact suffix_hvs q2 vals
      rw [e2]
      rfl
    by_cases hn : m < L.length
    · rw [if_pos hn] at hC
      obtain ⟨c1, c2, c3, c4⟩ := hC
      have hlen := H.D.l
      have H' := H.close (n := m) ho (by omega) q3 (pc' := z) (seg' := T') (hid' := h0) (lc' := r) q5 (brkL_nr q1 nr)
      have g1 := go_close (y := y) (fs := fs) (vars := a.vars) H.hac H.S.da H.hk c1 (by omega) H.o
      have g2 := go_jmp (Ps := Ps) (y := y) (fs := fs) (f := { f with slots := f.slots.take m ++ (List.range (f.slots.length - m)).map (a.vars.length + ·), pc := f.pc + 1 }) (vars := a.vars ++ (f.slots.drop m).map fun s => a.vars.getD s vNil) H.hac H.S.da H.hk c2 c3 q5.code H.o
      rw [H.ai] at g1
      exact ⟨0, _, g1.trans g2, .inl ⟨ρ, by rw [stepN_one H.S.di, hI]; exact H'.S⟩⟩
    · rw [if_neg hn] at hC
      obtain ⟨c1, c2, c3⟩ := hC
      have ht : L.take m = L := List.take_of_length_le (by omega)
      rw [ht] at q5
      have g1 := go_jmp (Ps := Ps) (y := y) (fs := fs) (f := f) (vars := a.vars) H.hac H.S.da H.hk c1 c2 q5.code H.o
      rw [H.ai] at g1
      have hD : FrD Ps a.vars a.tabs ρ f.slots j L h0 f0 [] ([] ++ hvs a.vars f.slots h0) := ⟨rfl, fun q hq => by have := H.D.f q (q3.subset hq); rw [ho] at this; exact this, H.D.n, H.D.l, H.D.r⟩
      have H' := H.re (ops' := []) (pc' := z) (seg' := T') q5 hD (by simp) (brkL_nr q1 nr)
      have e1 : ({ f with ops := [], pc := z } : AFr) = { f with pc := z } := by rw [← ho]
      rw [e1] at H'
      exact ⟨0, _, g1, .inl ⟨ρ, by rw [stepN_one H.S.di, hI]; exact H'.S⟩⟩
end

end Go.Proofs.Qxb6500568aGreatDoor
