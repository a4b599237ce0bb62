import Derived.Test.Qxb6500568aGreatDoorMa
namespace Go.Proofs.Qxb6500568aGreatDoor
open Ieee
set_option linter.unusedVariables false
set_option linter.unusedSimpArgs false
set_option linter.unusedSectionVars false

/-! The rounds of loops. -/

theorem mkI_mkI (i : IS) (x : ITh) (T T2 : List Tk) (V V2 : List PV) : mkI (mkI i x T V) { x with tasks := T, vals := V } T2 V2 = mkI i x T2 V2 := by unfold mkI; simp
theorem mkA_mkA (a : AS) (y : ATh) (fs : List AFr) (f f2 : AFr) (vars vars2 : List PV) : mkA (mkA a y fs f vars) { y with frs := f :: fs } fs f2 vars2 = mkA a y fs f2 vars2 := by unfold mkA; simp

theorem live_mem : ∀ (t : Tb), live t = (vNil, vNil) ∨ live t ∈ t
  | [] => .inl rfl
  | p :: t => by
    unfold live
    split
    · rcases live_mem t with h | h
      · exact .inl h
      · exact .inr (by simp [h])
    · exact .inr (by simp)
theorem place_mem : ∀ {t : Tb} {k v : PV}, (k, v) ∈ t → ∃ i, place t k = some i
  | p :: t, k, v, h => by
    unfold place
    by_cases hp : p.1 = k
    · exact ⟨0, by simp [hp]⟩
    · rcases List.mem_cons.1 h with rfl | h
      · exact absurd rfl hp
      · obtain ⟨i, hi⟩ := place_mem h
        exact ⟨i + 1, by simp [hp, hi]⟩
/-- the keys of a table are made one. -/
def KeyN (ts : List Tb) : Prop := ∀ t ∈ ts, ∀ q ∈ t, nrmK q.1 = q.1
theorem next_key {t : Tb} {k0 k v : PV} (h : tNext t k0 = some (k, v)) (hk : k.T ≠ 0) (hn : ∀ q ∈ t, nrmK q.1 = q.1) : ∃ i, place t (nrmK k) = some i := by
  have hm : (k, v) ∈ t := by
    unfold tNext at h
    split at h
    · have h' := Option.some.inj h
      rcases live_mem t with h2 | h2
      · rw [h2] at h'; cases h'; exact absurd rfl hk
      · rw [h'] at h2; exact h2
    · cases hp : place t (nrmK k0) with
      | none => rw [hp] at h; cases h
      | some i =>
        rw [hp] at h
        have h' : live (t.drop (i + 1)) = (k, v) := Option.some.inj h
        rcases live_mem (t.drop (i + 1)) with h2 | h2
        · rw [h2] at h'; cases h'; exact absurd rfl hk
        · rw [h'] at h2; exact List.mem_of_mem_drop h2
  rw [hn _ hm]
  exact place_mem hm

section
variable {G : Arena} {root : Nat} {Ps : List Proto} {Fs : Nat → FI} {i : IS} {a : AS} {ρ : List Nat} {x : ITh} {y : ATh} {f : AFr} {fs : List AFr} {seg ts : List Tk} {vs vals : List PV} {p j : Nat} {ids : List Nat} {od : List (Str × Nat)} {L : List Str} {hid : List Nat} {lc : List (Nat × Nat)} {fl : List (Nat × Nat)} {t : Tk}

theorem go_arith {vars : List PV} {z : Nat} {u v : PV} {l : List PV} (hc : a.cur < a.ths.length) (hd : a.done = false) (hk : a.clos[f.clo]? = some (j, ids)) (ho : f.ops = u :: v :: l) (hu : u.T = 2) (hv : v.T = 2) (h1 : cod Ps j f.pc = some (15, z)) (hz : 1 ≤ z ∧ z ≤ 6) (h4 : f.ops.length ≤ 128) :
    Go Ps (mkA a y fs f vars) (mkA a y fs { f with ops := vNum (fAri z v.N u.N) :: l, pc := f.pc + 1 } vars) := by
  have hs : Snd Ps (mkA a y fs f vars) 15 z := snd_mk hc hd hk h1 (rng15 (.inl rfl) hz) (by simp [needO, ho]) h4 (fun h => by simp [growsO] at h) (by omega)
  have he : astep Ps (mkA a y fs f vars) = mkA a y fs { f with ops := vNum (fAri z v.N u.N) :: l, pc := f.pc + 1 } vars := by
    rw [step_mk hc hd hk h1 (by omega) (by omega) (by omega) (by omega) (by omega) (by omega)]
    have hb : binV z v u = .ok (vNum (fAri z v.N u.N)) := by unfold binV; rw [if_neg (by omega), if_neg (by omega), if_pos ⟨hv, hu⟩]
    unfold aplain
    simp only [mk_fr hc, ho, Nat.reduceEqDiff, if_false, if_true, List.getD_cons_zero, List.getD_cons_succ, hb, mk_ops hc, mk_pc hc]
    rfl
  rw [← he]; exact .one hs

theorem Hd.fbackT {n e r q : Nat} {bd : StL} (H : Hd G root Ps Fs i a ρ x y f fs (⟨17, n, 0, e⟩ :: ⟨4, 0, vals.length + hid.length, 0⟩ :: seg) ts vs vals p j ids od (L ++ [[], [], [], (nd G n).S]) ((L.length + 2) :: (L.length + 1) :: L.length :: hid) ((L.length, 1) :: fl)) (F : FoD G Ps Fs j n bd L lc r q) (hpc : f.pc = q) (hB : Bd i.envs ρ e (Dy f.slots od L)) (hK : KK G Ps Fs i ρ f od vals j false (q + 7) seg 0 L hid lc fl) (hm : f.ops.length = 0) : Adv G root Ps Fs i a := by
  subst hpc
  have ho : f.ops = [] := List.eq_nil_of_length_eq_zero hm
  have hns := F.ns
  have nr := nr_tl H.V.nr
  have hop : OpLt 0 fl := hK.oplt
  have hT := (H.D.f (L.length, 1) (by simp)).1
  unfold FlD at hT
  simp only [if_true] at hT
  have hsl : f.slots.length = (pr Ps j).ns := H.D.n
  obtain ⟨sl', hsl'⟩ : ∃ s, s = f.slots.take (L.length + 3) ++ (List.range (f.slots.length - (L.length + 3))).map (a.vars.length + ·) := ⟨_, rfl⟩
  obtain ⟨v1, hv1⟩ : ∃ s, s = a.vars ++ (f.slots.drop (L.length + 3)).map fun s => a.vars.getD s vNil := ⟨_, rfl⟩
  have hget : ∀ k, k < L.length + 3 → sl'.getD k 0 = f.slots.getD k 0 := fun k hk => by rw [hsl', new_get (by omega), if_pos hk]
  have hold : ∀ k, k < f.slots.length → v1.getD (f.slots.getD k 0) vNil = a.vars.getD (f.slots.getD k 0) vNil := fun k hk => by
    rw [hv1]; simp only [List.getD_eq_getElem?_getD]; rw [List.getElem?_append_left]
    have := H.slt _ (getD_mem hk)
    simpa [List.getD_eq_getElem?_getD] using this
  have htk : (L ++ [[], [], [], (nd G n).S]).take (L.length + 3) = L ++ [[], [], []] := by
    rw [app4]; exact List.take_left' (by simp)
  -- the slots made new; the place is the loop's test
  have H1 := H.close (n := L.length + 3) ho (by omega) (List.suffix_refl _) (pc' := r + 2) (seg' := ⟨16, n, 0, e⟩ :: ⟨4, 0, vals.length + hid.length, 0⟩ :: seg) (hid' := (L.length + 2) :: (L.length + 1) :: L.length :: hid) (lc' := lc) (by rw [htk]; exact K.set (K.ftest F hB hK)) (nr_cons (by simp) nr)
  rw [htk, ← hsl', ← hv1] at H1
  have hl' : sl'.length = f.slots.length := by rw [hsl']; simp; omega
  have hn0 : L.length < sl'.length := by omega
  obtain ⟨nv, hnv⟩ : ∃ v, v = vNum (fAri 1 (sv a f L.length).N (sv a f (L.length + 2)).N) := ⟨_, rfl⟩
  have hfree := H1.free hn0 (fun nm h => by rw [List.getElem?_append_right (Nat.le_refl _)] at h; simpa using h.symm)
  have hh1 := H1.snd
  have hidl : ∀ {s : Nat}, L[s]? = some [] → s < L.length := fun h => (List.getElem?_eq_some_iff.1 h).1
  have hh := hK.hidden
  have hset : ∀ k, k < L.length + 3 → k ≠ L.length → (v1.set (sl'.getD L.length 0) nv).getD (sl'.getD k 0) vNil = a.vars.getD (f.slots.getD k 0) vNil := fun k hk hne => by
    rw [getD_set_ne (fun he => hne (slot_inj hh1 (show k < sl'.length by omega) hn0 he.symm)), hget k hk, hold k (by omega)]
  have hself : (v1.set (sl'.getD L.length 0) nv).getD (sl'.getD L.length 0) vNil = nv := getD_set_self (H1.slt _ (getD_mem hn0)) nv
  have hhv : hvs (v1.set (sl'.getD L.length 0) nv) sl' ((L.length + 2) :: (L.length + 1) :: L.length :: hid) = sv a f (L.length + 2) :: sv a f (L.length + 1) :: nv :: hvs a.vars f.slots hid := by
    rw [hvs3, hself, hset _ (by omega) (by omega), hset _ (by omega) (by omega)]
    congr 3
    unfold hvs
    apply List.map_congr_left
    intro s hs
    have := hidl (hh.1 s hs)
    exact hset s (by omega) (by omega)
  have hD2 : FrD Ps (v1.set (sl'.getD L.length 0) nv) a.tabs ρ sl' j (L ++ [[], [], []]) ((L.length + 2) :: (L.length + 1) :: L.length :: hid) ((L.length, 1) :: fl) [] ([] ++ hvs (v1.set (sl'.getD L.length 0) nv) sl' ((L.length + 2) :: (L.length + 1) :: L.length :: hid)) := by
    refine ⟨rfl, fun w hw => ?_, by rw [hl']; exact hsl, H1.D.l, H1.D.r⟩
    rcases List.mem_cons.1 hw with rfl | hw
    · refine ⟨?_, (show 1 ≤ 2 by decide)⟩
      unfold FlD
      simp only [if_true]
      intro k hk
      rcases k with _ | _ | _ | k
      · rw [Nat.add_zero, hself, hnv]; exact ⟨rfl, rfl⟩
      · rw [hset _ (by omega) (by omega)]; exact hT 1 (by omega)
      · rw [hset _ (by omega) (by omega)]; exact hT 2 (by omega)
      · omega
    · have h1 := H1.D.f w (by simp [hw])
      have h2 : FlD v1 a.tabs sl' [] w := by have := h1.1; simp only at this; rw [ho] at this; exact this
      exact ⟨h2.set h1.2 (fun k hk he => by
        have := hidl (hh.2 w hw k hk)
        have := slot_inj hh1 hn0 (show w.1 + k < sl'.length by omega) he
        omega), h1.2⟩
  have H2 := H1.wr (vars' := v1.set (sl'.getD L.length 0) nv) (ops' := []) (pc' := r + 2) (seg' := ⟨16, n, 0, e⟩ :: ⟨4, 0, vals.length + hid.length, 0⟩ :: seg) (lc' := lc) (by rw [List.length_set]; rfl) (fun s hs => getD_set_ne (fun he => by subst he; rcases hs with hs | hs; exact hs (getD_mem hn0); exact hfree hs) nv)
    (K.set ((K.ftest F hB hK).mono (fun _ _ h => h) (fun s nm h1 h2 => by
      have hs : s < L.length + 3 := by have := (List.getElem?_eq_some_iff.1 h1).1; simpa using this
      exact (hget s hs).symm))) hD2 (by simp) (nr_cons (by simp) nr)
  have S2 := H2.S
  rw [mkI_mkI, mkA_mkA] at S2
  have g1 := go_close (y := y) (fs := fs) (vars := a.vars) H.hac H.S.da H.hk F.j0 (by omega) H.o
  rw [H.ai, ← hsl', ← hv1] at g1
  have g2 := go_getl (Ps := Ps) (y := y) (fs := fs) (f := { f with slots := sl', pc := f.pc + 1 }) (vars := v1) (x := L.length) H.hac H.S.da H.hk F.j1 (by omega) (by simp [ho])
  have g3 := go_getl (Ps := Ps) (y := y) (fs := fs) (f := { f with slots := sl', ops := v1.getD (sl'.getD L.length 0) vNil :: f.ops, pc := f.pc + 1 + 1 }) (vars := v1) (x := L.length + 2) H.hac H.S.da H.hk F.j2 (by omega) (by simp [ho])
  have hx0 : v1.getD (sl'.getD L.length 0) vNil = sv a f L.length := by rw [hget _ (by omega), hold _ (by omega)]
  have hx2 : v1.getD (sl'.getD (L.length + 2) 0) vNil = sv a f (L.length + 2) := by rw [hget _ (by omega), hold _ (by omega)]
  have hnv2 : vNum (fAri 1 (v1.getD (sl'.getD L.length 0) vNil).N (v1.getD (sl'.getD (L.length + 2) 0) vNil).N) = nv := by rw [hnv, hx0, hx2]
  have g4 : Go Ps (mkA a y fs { f with slots := sl', ops := v1.getD (sl'.getD (L.length + 2) 0) vNil :: v1.getD (sl'.getD L.length 0) vNil :: f.ops, pc := f.pc + 1 + 1 + 1 } v1) (mkA a y fs { f with slots := sl', ops := nv :: f.ops, pc := f.pc + 1 + 1 + 1 + 1 } v1) := by
    rw [← hnv2]
    exact go_arith (Ps := Ps) (a := a) (y := y) (fs := fs) (f := { f with slots := sl', ops := v1.getD (sl'.getD (L.length + 2) 0) vNil :: v1.getD (sl'.getD L.length 0) vNil :: f.ops, pc := f.pc + 1 + 1 + 1 }) (vars := v1) (z := 1) H.hac H.S.da H.hk rfl (by rw [hx2]; exact (hT 2 (by omega)).1) (by rw [hx0]; exact (hT 0 (by omega)).1) F.j3 (by omega) (by simp [ho])
  have g5 := go_setl (Ps := Ps) (a := a) (y := y) (fs := fs) (f := { f with slots := sl', ops := nv :: f.ops, pc := f.pc + 1 + 1 + 1 + 1 }) (vars := v1) (x := L.length) H.hac H.S.da H.hk rfl F.j4 (by omega) (by simp [ho])
  have hA := (((g1.trans g2).trans g3).trans g4).trans g5
  refine H.back (k := 0) (k2 := 16) (n := n) (e := e) (top := r + 2) (vs' := hvs (v1.set (sl'.getD L.length 0) nv) sl' ((L.length + 2) :: (L.length + 1) :: L.length :: hid)) (f' := { f with slots := sl', pc := f.pc + 1 + 1 + 1 + 1 + 1 }) (vars' := v1.set (sl'.getD L.length 0) nv) (ρ' := ρ) (lc' := lc) (fl' := fl) (hid' := hid) (L' := L) (seg' := seg) (es' := []) ?_ hA ?_ rfl F.j5 F.l5 ⟨_, F.i2⟩ H.o
  · rw [hhv]
    have hvv : vs = sv a f (L.length + 2) :: sv a f (L.length + 1) :: sv a f L.length :: hvs a.vars f.slots hid := by rw [H.vv, ho]; rfl
    simp only [istep1, Nat.reduceEqDiff, if_false, if_true]
    rw [mkI_top H.hic, mkI_th H.hic, mkI_setT H.hic]
    have e0 : ({ sv a f L.length with N := fAri 1 (sv a f L.length).N (sv a f (L.length + 2)).N } : PV) = nv := by
      have h0 := hT 0 (by omega)
      rw [hnv]
      have e1 : sv a f L.length = ⟨2, (sv a f L.length).N, []⟩ := by
        have q1 : (sv a f L.length).T = 2 := h0.1
        have q2 : (sv a f L.length).S = [] := h0.2
        generalize sv a f L.length = z at q1 q2 ⊢
        obtain ⟨a1, a2, a3⟩ := z
        simp only at q1 q2
        subst q1; subst q2; rfl
      rw [e1]; rfl
    have e2 : (vs ++ vals).modify 2 (fun v => { v with N := fAri 1 v.N ((vs ++ vals).getD 0 vNil).N }) = (sv a f (L.length + 2) :: sv a f (L.length + 1) :: nv :: hvs a.vars f.slots hid) ++ vals := by
      rw [hvv]
      show _ :: _ :: ({ sv a f L.length with N := fAri 1 (sv a f L.length).N (sv a f (L.length + 2)).N } : PV) :: _ = _
      rw [e0]; rfl
    simp only [e2]
    rfl
  · have e1 : ({ f with slots := sl', pc := r + 2, ops := [] } : AFr) = { f with slots := sl', pc := r + 2 } := by rw [← ho]
    have S3 : Sim G root Ps Fs (mkI i x (⟨16, n, 0, e⟩ :: ⟨4, 0, vals.length + hid.length, 0⟩ :: seg ++ ⟨3, p, vals.length, 0⟩ :: ts) (([] ++ hvs (v1.set (sl'.getD L.length 0) nv) sl' ((L.length + 2) :: (L.length + 1) :: L.length :: hid)) ++ vals)) (mkA a y fs { f with slots := sl', pc := r + 2, ops := [] } (v1.set (sl'.getD L.length 0) nv)) ρ := S2
    rw [e1] at S3
    exact S3
end

end Go.Proofs.Qxb6500568aGreatDoor
