import Derived.Test.Qxb6500568aGreatDoorLz
namespace Go.Proofs.Qxb6500568aGreatDoor
open Ieee
set_option linter.unusedVariables false
set_option linter.unusedSimpArgs false
set_option linter.unusedSectionVars false

/-! Numeric loops. -/

/-- a step that is neither above nor below zero is zero or no number. -/
theorem for_chk (z : Nat) : (fCmp 1 z 0 = true ∨ fCmp 2 z z = true) ↔ ¬ (fCmp 5 z 0 = true ∨ fCmp 3 z 0 = true) := by
  have h0 : okey 0 = 0 := by decide
  have hr : rgW 0 = 0 := by decide
  unfold fCmp
  by_cases hn : infB < rgW z
  · simp [hn]
  · have hi : ¬ infB < rgW 0 := by rw [hr]; exact Nat.not_lt_zero _
    simp [hn, hi, h0]
    omega

section
variable {G : Arena} {root : Nat} {Ps : List Proto} {Fs : Nat → FI} {i : IS} {a : AS} {ρ : List Nat} {x : ITh} {y : ATh} {f : AFr} {fs : List AFr} {seg ts : List Tk} {vs vals : List PV} {p j : Nat} {ids : List Nat} {od : List (Str × Nat)} {L : List Str} {hid : List Nat} {lc : List (Nat × Nat)} {fl : List (Nat × Nat)} {t : Tk}

abbrev sv (a : AS) (f : AFr) (n : Nat) : PV := a.vars.getD (f.slots.getD n 0) vNil

theorem hvs3 (vars : List PV) (sl : List Nat) (n : Nat) (h : List Nat) : hvs vars sl ((n + 2) :: (n + 1) :: n :: h) = vars.getD (sl.getD (n + 2) 0) vNil :: vars.getD (sl.getD (n + 1) 0) vNil :: vars.getD (sl.getD n 0) vNil :: hvs vars sl h := rfl

theorem Hd.finitT {n e r q : Nat} {bd : StL} (H : Hd G root Ps Fs i a ρ x y f fs (⟨15, n, 0, e⟩ :: ⟨4, 0, vals.length + hid.length, 0⟩ :: seg) ts vs vals p j ids od (L ++ [[], [], []]) ((L.length + 2) :: (L.length + 1) :: L.length :: hid) fl) (F : FoD G Ps Fs j n bd L lc r q) (hpc : f.pc = r + 1) (hB : Bd i.envs ρ e (Dy f.slots od L)) (hK : KK G Ps Fs i ρ f od vals j false (q + 7) seg 0 L hid lc fl) (hm : f.ops.length = 0)
    (hv : ∀ k, k < 3 → (sv a f (L.length + k)).T = 2 → (sv a f (L.length + k)).S = []) : Adv G root Ps Fs i a := by
  have ho : f.ops = [] := List.eq_nil_of_length_eq_zero hm
  have hns := F.ns
  have hc : cod Ps j f.pc = some (30, L.length) := by rw [hpc]; exact F.i1
  have hs := H.sound hc (rng30 (.inl rfl) (by rw [H.pro]; omega)) (by simp [needO]) (by simp [growsO]) (by simp)
  have hvv : vs = sv a f (L.length + 2) :: sv a f (L.length + 1) :: sv a f L.length :: hvs a.vars f.slots hid := by rw [H.vv, ho]; rfl
  have hI : istep1 G root ⟨15, n, 0, e⟩ i (mkI i x (⟨4, 0, vals.length + hid.length, 0⟩ :: seg ++ ⟨3, p, vals.length, 0⟩ :: ts) (vs ++ vals)) = if (sv a f L.length).T = 2 ∧ (sv a f (L.length + 1)).T = 2 ∧ (sv a f (L.length + 2)).T = 2 then (if fCmp 5 (sv a f (L.length + 2)).N 0 ∨ fCmp 3 (sv a f (L.length + 2)).N 0 then mkI i x (⟨16, n, 0, e⟩ :: ⟨4, 0, vals.length + hid.length, 0⟩ :: seg ++ ⟨3, p, vals.length, 0⟩ :: ts) (vs ++ vals) else iraise mFor (mkI i x (⟨4, 0, vals.length + hid.length, 0⟩ :: seg ++ ⟨3, p, vals.length, 0⟩ :: ts) (vs ++ vals))) else iraise mFor (mkI i x (⟨4, 0, vals.length + hid.length, 0⟩ :: seg ++ ⟨3, p, vals.length, 0⟩ :: ts) (vs ++ vals)) := by
    simp only [istep1, Nat.reduceEqDiff, if_false, if_true]
    simp only [mkI_top H.hic, mkI_do H.hic, hvv]
    rfl
  have hA : astep Ps a = if (sv a f L.length).T = 2 ∧ (sv a f (L.length + 1)).T = 2 ∧ (sv a f (L.length + 2)).T = 2 then (if fCmp 1 (sv a f (L.length + 2)).N 0 ∨ fCmp 2 (sv a f (L.length + 2)).N (sv a f (L.length + 2)).N then araise mFor a else mkA a y fs { f with ops := [], pc := f.pc + 1 } a.vars) else araise mFor a := by
    rw [H.plain hc (by omega) (by omega) (by omega) (by omega) (by omega) (by omega)]
    unfold aplain
    simp only [mk_fr H.hac, mk_slot H.hac, Nat.reduceEqDiff, if_false, if_true, mk_ops H.hac, mk_pc H.hac, ho]
    show (if (sv a f L.length).T = 2 ∧ (sv a f (L.length + 1)).T = 2 ∧ (sv a f (L.length + 2)).T = 2 then (if fCmp 1 (sv a f (L.length + 2)).N 0 ∨ fCmp 2 (sv a f (L.length + 2)).N (sv a f (L.length + 2)).N then araise mFor (mkA a y fs f a.vars) else mkA a y fs { f with ops := [], pc := f.pc + 1 } a.vars) else araise mFor (mkA a y fs f a.vars)) = _
    rw [H.ai]
  have nr := nr_tl H.V.nr
  by_cases c2 : (sv a f L.length).T = 2 ∧ (sv a f (L.length + 1)).T = 2 ∧ (sv a f (L.length + 2)).T = 2
  · rw [if_pos c2] at hI hA
    by_cases c3 : fCmp 5 (sv a f (L.length + 2)).N 0 = true ∨ fCmp 3 (sv a f (L.length + 2)).N 0 = true
    · rw [if_pos c3] at hI
      rw [if_neg (fun h => (for_chk _).1 h c3)] at hA
      refine ⟨0, _, .one hs, .inl ⟨ρ, ?_⟩⟩
      rw [stepN_one H.S.di, H.is, hI, hA]
      have hD : FrD Ps a.vars a.tabs ρ f.slots j (L ++ [[], [], []]) ((L.length + 2) :: (L.length + 1) :: L.length :: hid) ((L.length, 1) :: fl) [] ([] ++ hvs a.vars f.slots ((L.length + 2) :: (L.length + 1) :: L.length :: hid)) := by
        refine ⟨rfl, fun w hw => ?_, H.D.n, H.D.l, H.D.r⟩
        rcases List.mem_cons.1 hw with rfl | hw
        · refine ⟨?_, (show 1 ≤ 2 by decide)⟩
          unfold FlD
          simp only [if_true]
          intro k hk
          have : (sv a f (L.length + k)).T = 2 := by
            rcases k with _ | _ | _ | k
            · exact c2.1
            · exact c2.2.1
            · exact c2.2.2
            · omega
          exact ⟨this, hv k hk this⟩
        · have := H.D.f w hw
          rw [ho] at this; exact this
      have H' := H.re (ops' := []) (pc' := f.pc + 1) (seg' := ⟨16, n, 0, e⟩ :: ⟨4, 0, vals.length + hid.length, 0⟩ :: seg) (by rw [hpc]; exact K.set (K.ftest F hB hK)) hD (by simp) (nr_cons (by simp) nr)
      have e1 : vs = [] ++ hvs a.vars f.slots ((L.length + 2) :: (L.length + 1) :: L.length :: hid) := by rw [H.vv, ho]
      rw [e1]
      exact H'.S
    · rw [if_neg c3] at hI
      rw [if_pos ((for_chk _).2 c3)] at hA
      refine ⟨0, _, .one hs, ?_⟩
      rw [stepN_one H.S.di, H.is, hI, hA]
      exact H.throw0 nr _
  · rw [if_neg c2] at hI hA
    refine ⟨0, _, .one hs, ?_⟩
    rw [stepN_one H.S.di, H.is, hI, hA]
    exact H.throw0 nr _

theorem Hd.ftestT {n e r q : Nat} {bd : StL} (H : Hd G root Ps Fs i a ρ x y f fs (⟨16, n, 0, e⟩ :: ⟨4, 0, vals.length + hid.length, 0⟩ :: seg) ts vs vals p j ids od (L ++ [[], [], []]) ((L.length + 2) :: (L.length + 1) :: L.length :: hid) ((L.length, 1) :: fl)) (F : FoD G Ps Fs j n bd L lc r q) (hpc : f.pc = r + 2) (hB : Bd i.envs ρ e (Dy f.slots od L)) (hK : KK G Ps Fs i ρ f od vals j false (q + 7) seg 0 L hid lc fl) (hm : f.ops.length = 0) : Adv G root Ps Fs i a := by
  have ho : f.ops = [] := List.eq_nil_of_length_eq_zero hm
  have hns := F.ns
  have nr := nr_tl H.V.nr
  have hop : OpLt 0 fl := hK.oplt
  have hc : cod Ps j f.pc = some (31, L.length) := by rw [hpc]; exact F.i2
  have hT := (H.D.f (L.length, 1) (by simp)).1
  unfold FlD at hT
  simp only [if_true] at hT
  have hslot : ∀ k, a.slot k = f.slots.getD k 0 := fun k => by have := mk_slot (y := y) (fs := fs) (f := f) (vars := a.vars) H.hac k; rw [H.ai] at this; exact this
  have hs := H.sound hc (rng31 (by rw [H.pro]; omega) ⟨by rw [hslot]; exact (hT 0 (by omega)).1, by rw [hslot]; exact (hT 1 (by omega)).1, by rw [hslot]; exact (hT 2 (by omega)).1⟩) (by simp [needO]) (fun _ => by omega) (by simp)
  have hvv : vs = sv a f (L.length + 2) :: sv a f (L.length + 1) :: sv a f L.length :: hvs a.vars f.slots hid := by rw [H.vv, ho]; rfl
  obtain ⟨on, hon⟩ : ∃ on, (if fCmp 5 (sv a f (L.length + 2)).N 0 = true then fCmp 4 (sv a f L.length).N (sv a f (L.length + 1)).N else fCmp 6 (sv a f L.length).N (sv a f (L.length + 1)).N) = on := ⟨_, rfl⟩
  have hA : astep Ps a = mkA a y fs { f with ops := [vBool on], pc := f.pc + 1 } a.vars := by
    rw [H.plain hc (by omega) (by omega) (by omega) (by omega) (by omega) (by omega)]
    unfold aplain
    simp only [mk_fr H.hac, mk_slot H.hac, Nat.reduceEqDiff, if_false, if_true, mk_ops H.hac, mk_pc H.hac, ho]
    rw [← hon]
    show mkA a y fs { f with ops := [vBool (fCmp (if fCmp 5 (sv a f (L.length + 2)).N 0 = true then (4 : Int) else 6) (sv a f L.length).N (sv a f (L.length + 1)).N)], pc := f.pc + 1 } a.vars = _
    split <;> rfl
  have g1 : Go Ps a (mkA a y fs { f with ops := [vBool on], pc := f.pc + 1 } a.vars) := by rw [← hA]; exact .one hs
  have hkq : ∃ z, cod Ps j (q + 6) = some z := ⟨_, F.j6⟩
  have g2 := go_jf (Ps := Ps) (y := y) (fs := fs) (f := { f with ops := [vBool on], pc := f.pc + 1 }) (vars := a.vars) (v := vBool on) (l := []) H.hac H.S.da H.hk rfl (by show cod Ps j (f.pc + 1) = _; rw [hpc]; exact F.i3) (by show f.pc + 1 < q + 6; have := F.l3; omega) hkq (by simp)
  have htr : trV (vBool on) = on := by cases on <;> rfl
  rw [htr] at g2
  have hI : istep1 G root ⟨16, n, 0, e⟩ i (mkI i x (⟨4, 0, vals.length + hid.length, 0⟩ :: seg ++ ⟨3, p, vals.length, 0⟩ :: ts) (vs ++ vals)) = if on = true then mkI { i with envs := i.envs ++ [⟨(nd G n).S, sv a f L.length, e⟩] } x (⟨1, (nd G n).B, 0, i.envs.length + 1⟩ :: ⟨17, n, 0, e⟩ :: ⟨4, 0, vals.length + hid.length, 0⟩ :: seg ++ ⟨3, p, vals.length, 0⟩ :: ts) (vs ++ vals) else mkI i x (⟨4, 0, vals.length + hid.length, 0⟩ :: seg ++ ⟨3, p, vals.length, 0⟩ :: ts) (hvs a.vars f.slots hid ++ vals) := by
    simp only [istep1, Nat.reduceEqDiff, if_false, if_true]
    simp only [mkI_top H.hic, mkI_do H.hic, mkI_drop H.hic, hvv]
    show (if (if fCmp 5 (sv a f (L.length + 2)).N 0 = true then fCmp 4 (sv a f L.length).N (sv a f (L.length + 1)).N else fCmp 6 (sv a f L.length).N (sv a f (L.length + 1)).N) = true then _ else _) = _
    rw [hon]
    split
    · simp only [inew, IS.last]
      have e1 : ∀ (E : List Env) (T : List Tk) (V : List PV), ({ mkI i x T V with envs := E } : IS) = mkI { i with envs := E } x T V := fun _ _ _ => rfl
      rw [e1, mkI_do (i := { i with envs := (mkI i x (⟨17, n, 0, e⟩ :: (⟨4, 0, vals.length + hid.length, 0⟩ :: seg ++ ⟨3, p, vals.length, 0⟩ :: ts)) (sv a f (L.length + 2) :: sv a f (L.length + 1) :: sv a f L.length :: hvs a.vars f.slots hid ++ vals)).envs ++ [⟨(nd G n).S, (sv a f (L.length + 2) :: sv a f (L.length + 1) :: sv a f L.length :: hvs a.vars f.slots hid ++ vals).getD 2 vNil, e⟩] }) H.hic]
      simp [mkI]
    · rfl
  by_cases hb : on = true
  · rw [if_pos hb] at hI g2
    have hlen3 : (L ++ [[], [], []]).length = L.length + 3 := by simp
    have g3 := go_getl (Ps := Ps) (y := y) (fs := fs) (f := { f with ops := [], pc := f.pc + 1 + 1 }) (vars := a.vars) (x := L.length) H.hac H.S.da H.hk (by show cod Ps j (f.pc + 1 + 1) = _; rw [hpc]; exact F.i4) (by omega) (by simp)
    have g4 := go_setl (Ps := Ps) (y := y) (fs := fs) (f := { f with ops := [sv a f L.length], pc := f.pc + 1 + 1 + 1 }) (vars := a.vars) (x := L.length + 3) H.hac H.S.da H.hk rfl (by show cod Ps j (f.pc + 1 + 1 + 1) = _; rw [hpc]; exact F.i5) (by omega) (by simp)
    have hB3 : Bd i.envs ρ e (Dy f.slots od (L ++ [[], [], []])) := by rw [Dy_h3]; exact hB
    have kb : KK G Ps Fs i ρ f od vals j false q (⟨17, n, 0, e⟩ :: ⟨4, 0, vals.length + hid.length, 0⟩ :: seg) 0 (L ++ [[], [], [], (nd G n).S]) ((L.length + 2) :: (L.length + 1) :: L.length :: hid) ((L.length, q + 6) :: lc) ((L.length, 1) :: fl) := .set (.fback F hB hK)
    have hbk : BK G Ps Fs (Bd i.envs ρ) f.slots od vals.length j ((L.length, q + 6) :: lc) (⟨17, n, 0, e⟩ :: ⟨4, 0, vals.length + hid.length, 0⟩ :: seg) (L ++ [[], [], [], (nd G n).S]) ((L.length + 2) :: (L.length + 1) :: L.length :: hid) ((L.length, 1) :: fl) := by
      refine .some (ts' := seg) (hid0 := hid) rfl ⟨[L.length + 2, L.length + 1, L.length], rfl⟩ ⟨[(L.length, 1)], rfl⟩ (by simp) ?_
      rw [List.take_append_of_le_length (Nat.le_refl _), List.take_length]
      exact .close F.j6 (Nat.le_refl _) (by omega) (by rw [List.take_length]; exact hK)
    obtain ⟨ρ', S', -⟩ := H.bind1 (lc := (L.length, q + 6) :: lc) (nm := (nd G n).S) (v := sv a f L.length) (pc' := r + 6) (pc2 := q) (L0 := L ++ [[], [], [], (nd G n).S]) (seg' := ⟨17, n, 0, e⟩ :: ⟨4, 0, vals.length + hid.length, 0⟩ :: seg) F.hs (by rw [hlen3]; omega) (hK.hidden.pre (List.prefix_append _ _) |> fun h => (((h.cons (by simp)).cons (by simp)).cons (by simp)).flc (fun k hk => by simp [Go.Proofs.Qxb6500568aGreatDoor.hk] at hk; rcases k with _ | _ | _ | k <;> simp <;> omega)) (hop.cons (fun h => by cases h)) hB3 F.hbd (by rw [← app4]; exact F.cb) (by rw [← app4]; exact List.prefix_refl _) hbk kb (nr_cons (by simp) nr)
    refine ⟨0, _, ((g1.trans g2).trans g3).trans g4, .inl ⟨ρ', ?_⟩⟩
    rw [stepN_one H.S.di, H.is, hI]
    have e1 : vs = hvs a.vars f.slots ((L.length + 2) :: (L.length + 1) :: L.length :: hid) := by rw [H.vv, ho]; rfl
    rw [e1]
    rw [hlen3] at S'
    have e2 : f.pc + 1 + 1 + 1 + 1 = r + 6 := by omega
    simp only [e2]
    exact S'
  · rw [if_neg hb] at hI g2
    refine ⟨0, _, g1.trans g2, .inl ⟨ρ, ?_⟩⟩
    rw [stepN_one H.S.di, H.is, hI]
    have hD : FrD Ps a.vars a.tabs ρ f.slots j (L ++ [[], [], []]) hid fl [] ([] ++ hvs a.vars f.slots hid) := ⟨rfl, fun w hw => by have := H.D.f w (by simp [hw]); rw [ho] at this; exact this, H.D.n, H.D.l, H.D.r⟩
    have hlen := H.D.l
    have H' := H.re (ops' := []) (pc' := q + 6) (seg' := ⟨4, 0, vals.length + hid.length, 0⟩ :: seg) (lc' := lc) (K.close F.j6 (by simp) hlen (by rw [List.take_append_of_le_length (Nat.le_refl _), List.take_length]; exact K.set (K.loop hK))) hD (by simp) nr
    exact H'.S
end

end Go.Proofs.Qxb6500568aGreatDoor
