import Derived.Test.Qxb6500568aGreatDoorMb
namespace Go.Proofs.Qxb6500568aGreatDoor
open Ieee
set_option linter.unusedVariables false
set_option linter.unusedSimpArgs false
set_option linter.unusedSectionVars false

/-! Loops over a table. -/

section
variable {G : Arena} {root : Nat} {Ps : List Proto} {Fs : Nat → FI} {i : IS} {a : AS} {ρ : List Nat} {x : ITh} {y : ATh} {f : AFr} {fs : List AFr} {seg ts : List Tk} {vs vals : List PV} {p j : Nat} {ids : List Nat} {od : List (Str × Nat)} {L : List Str} {hid : List Nat} {lc : List (Nat × Nat)} {fl : List (Nat × Nat)} {t : Tk}

theorem next_step {vars : List PV} {z : Nat} (hc : a.cur < a.ths.length) (hd : a.done = false) (hk : a.clos[f.clo]? = some (j, ids)) (h1 : cod Ps j f.pc = some (32, z)) (hz : z + 3 < (pr Ps j).ns) (h4 : f.ops.length < 128) :
    Snd Ps (mkA a y fs f vars) 32 z ∧ astep Ps (mkA a y fs f vars) = if (vars.getD (f.slots.getD z 0) vNil).T ≠ 4 then araise mFor (mkA a y fs f vars) else match tNext (a.tabs.getD (vars.getD (f.slots.getD z 0) vNil).N []) (vars.getD (f.slots.getD (z + 1) 0) vNil) with
      | none => araise mNext (mkA a y fs f vars)
      | some (k, v) => mkA a y fs { f with ops := vBool (decide (k.T ≠ 0)) :: f.ops, pc := f.pc + 1 } (((vars.set (f.slots.getD (z + 1) 0) k).set (f.slots.getD (z + 2) 0) k).set (f.slots.getD (z + 3) 0) v) := by
  refine ⟨snd_mk hc hd hk h1 (rng30 (.inr rfl) (by rw [mk_pro hc hk]; exact hz)) (by simp [needO]) (by omega) (fun _ => h4) (by omega), ?_⟩
  rw [step_mk hc hd hk h1 (by omega) (by omega) (by omega) (by omega) (by omega) (by omega)]
  unfold aplain
  simp only [mk_fr hc, mk_slot hc, Nat.reduceEqDiff, if_false, if_true]
  have e0 : ∀ n, (mkA a y fs f vars).var n = vars.getD n vNil := fun _ => rfl
  have e1 : (mkA a y fs f vars).tabs = a.tabs := rfl
  simp only [e0, e1]
  split
  · rfl
  · cases tNext (a.tabs.getD (vars.getD (f.slots.getD z 0) vNil).N []) (vars.getD (f.slots.getD (z + 1) 0) vNil) with
    | none => rfl
    | some kv =>
      obtain ⟨k, v⟩ := kv
      simp only [aset]
      have e2 : ∀ (w : List PV), ({ mkA a y fs f vars with vars := w } : AS) = mkA a y fs f w := fun _ => rfl
      have e3 : (mkA a y fs f vars).vars = vars := rfl
      simp only [e3, e2, mk_fr hc, mk_ops hc, mk_pc hc]

theorem Hd.ininT {n e m q : Nat} {s t : Str} {bd : StL} (H : Hd G root Ps Fs i a ρ x y f fs (⟨18, n, 0, e⟩ :: ⟨4, 0, vals.length + hid.length, 0⟩ :: seg) ts vs vals p j ids od (L ++ [[]]) (L.length :: hid) fl) (F : InD G Ps Fs j n s t bd L lc m q) (hpc : f.pc = m + 1) (hB : Bd i.envs ρ e (Dy f.slots od L)) (hK : KK G Ps Fs i ρ f od vals j false (q + 3) seg 0 L hid lc fl) (hm : f.ops.length = 0)
    (hv : (sv a f L.length).T = 4 → (sv a f L.length).N < a.tabs.length) : Adv G root Ps Fs i a := by
  have ho : f.ops = [] := List.eq_nil_of_length_eq_zero hm
  have hns := F.ns
  have nr := nr_tl H.V.nr
  have hsl : f.slots.length = (pr Ps j).ns := H.D.n
  have hop : OpLt 0 fl := hK.oplt
  have hh := hK.hidden
  have hidl : ∀ {s : Nat}, L[s]? = some [] → s < L.length := fun h => (List.getElem?_eq_some_iff.1 h).1
  have hn1 : L.length + 1 < f.slots.length := by omega
  have hfree := H.free hn1 (fun nm h => by rw [List.getElem?_eq_none (by simp)] at h; cases h)
  have hset : ∀ k, k < f.slots.length → k ≠ L.length + 1 → (a.vars.set (f.slots.getD (L.length + 1) 0) vNil).getD (f.slots.getD k 0) vNil = a.vars.getD (f.slots.getD k 0) vNil := fun k hk hne => getD_set_ne (fun he => hne (slot_inj H.snd hk hn1 he.symm)) _
  have hself : (a.vars.set (f.slots.getD (L.length + 1) 0) vNil).getD (f.slots.getD (L.length + 1) 0) vNil = vNil := getD_set_self (H.slt _ (getD_mem hn1)) _
  have hhid : hvs (a.vars.set (f.slots.getD (L.length + 1) 0) vNil) f.slots hid = hvs a.vars f.slots hid := hvs_congr (fun s hs => by have := hidl (hh.1 s hs); exact hset s (by omega) (by omega))
  have hvo : ∀ s, (s ∉ f.slots ∨ s ∈ ρ) → (a.vars.set (f.slots.getD (L.length + 1) 0) vNil).getD s vNil = a.vars.getD s vNil := fun s hs => getD_set_ne (fun he => by subst he; rcases hs with hs | hs; exact hs (getD_mem hn1); exact hfree hs) _
  have hfl : ∀ w ∈ fl, FlD (a.vars.set (f.slots.getD (L.length + 1) 0) vNil) a.tabs f.slots [] w ∧ w.2 ≤ 2 := fun w hw => by
    have h1 := H.D.f w hw
    exact ⟨(h1.1.ops (ops' := []) (fun h2 => absurd (hop w hw h2) (by omega))).set h1.2 (fun k hk he => by
      have := hidl (hh.2 w hw k hk)
      have := slot_inj H.snd hn1 (show w.1 + k < f.slots.length by omega) he
      omega), h1.2⟩
  have hc1 : cod Ps j f.pc = some (2, 0) := by rw [hpc]; exact F.i1
  have g1 := go_push (y := y) (fs := fs) (vars := a.vars) H.hac H.S.da H.hk hc1 (.inl ⟨rfl, rfl⟩) (by omega)
  have g2 := go_setl (Ps := Ps) (a := a) (y := y) (fs := fs) (f := { f with ops := vNil :: f.ops, pc := f.pc + 1 }) (vars := a.vars) (x := L.length + 1) H.hac H.S.da H.hk rfl (by show cod Ps j (f.pc + 1) = _; rw [hpc]; exact F.i2) (by omega) (by simp [ho])
  rw [H.ai] at g1
  have hvv : vs = sv a f L.length :: hvs a.vars f.slots hid := by rw [H.vv, ho]; rfl
  have hI : istep1 G root ⟨18, n, 0, e⟩ i (mkI i x (⟨4, 0, vals.length + hid.length, 0⟩ :: seg ++ ⟨3, p, vals.length, 0⟩ :: ts) (vs ++ vals)) = if (sv a f L.length).T ≠ 4 then iraise mFor (mkI i x (⟨4, 0, vals.length + hid.length, 0⟩ :: seg ++ ⟨3, p, vals.length, 0⟩ :: ts) (vs ++ vals)) else mkI i x (⟨19, n, 0, e⟩ :: ⟨4, 0, vals.length + hid.length, 0⟩ :: seg ++ ⟨3, p, vals.length, 0⟩ :: ts) (vNil :: (vs ++ vals)) := by
    simp only [istep1, Nat.reduceEqDiff, if_false, if_true]
    simp only [mkI_top H.hic, mkI_push H.hic, mkI_do H.hic, hvv]
    rfl
  by_cases c4 : (sv a f L.length).T ≠ 4
  · rw [if_pos c4] at hI
    obtain ⟨s3, h3⟩ := next_step (Ps := Ps) (y := y) (fs := fs) (f := { f with ops := f.ops, pc := f.pc + 1 + 1 }) (vars := a.vars.set (f.slots.getD (L.length + 1) 0) vNil) (z := L.length) H.hac H.S.da H.hk (by show cod Ps j (f.pc + 1 + 1) = _; rw [hpc]; exact F.i3) (by omega) (by simp [ho])
    simp only [hset L.length (by omega) (by omega)] at h3
    rw [if_pos c4] at h3
    refine ⟨0, _, (g1.trans g2).trans (.one s3), ?_⟩
    rw [stepN_one H.S.di, H.is, hI, h3]
    have hD : FrD Ps (a.vars.set (f.slots.getD (L.length + 1) 0) vNil) a.tabs ρ f.slots j (L ++ [[]]) (L.length :: hid) fl [] ([] ++ hvs (a.vars.set (f.slots.getD (L.length + 1) 0) vNil) f.slots (L.length :: hid)) := ⟨rfl, hfl, H.D.n, H.D.l, H.D.r⟩
    have H' := H.wr (vars' := a.vars.set (f.slots.getD (L.length + 1) 0) vNil) (ops' := []) (pc' := m + 1) (seg' := ⟨18, n, 0, e⟩ :: ⟨4, 0, vals.length + hid.length, 0⟩ :: seg) (by simp) hvo (K.set (K.inin F hB hK)) hD (by simp) H.V.nr
    have hr := H'.throw (seg' := ⟨4, 0, vals.length + hid.length, 0⟩ :: seg) (pre := vs) (f' := { f with ops := f.ops, pc := f.pc + 1 + 1 }) rfl rfl nr (vStr mFor)
    rw [mkI_mkI, mkA_mkA] at hr
    exact hr
  · rw [if_neg c4] at hI
    have c4' : (sv a f L.length).T = 4 := Decidable.not_not.1 c4
    have hhv : hvs (a.vars.set (f.slots.getD (L.length + 1) 0) vNil) f.slots ((L.length + 1) :: L.length :: hid) = vNil :: vs := by
      have e0 : hvs (a.vars.set (f.slots.getD (L.length + 1) 0) vNil) f.slots ((L.length + 1) :: L.length :: hid) = (a.vars.set (f.slots.getD (L.length + 1) 0) vNil).getD (f.slots.getD (L.length + 1) 0) vNil :: (a.vars.set (f.slots.getD (L.length + 1) 0) vNil).getD (f.slots.getD L.length 0) vNil :: hvs (a.vars.set (f.slots.getD (L.length + 1) 0) vNil) f.slots hid := rfl
      rw [e0, hself, hset L.length (by omega) (by omega), hhid, hvv]
    have hD : FrD Ps (a.vars.set (f.slots.getD (L.length + 1) 0) vNil) a.tabs ρ f.slots j (L ++ [[], []]) ((L.length + 1) :: L.length :: hid) ((L.length, 0) :: fl) [] ([] ++ hvs (a.vars.set (f.slots.getD (L.length + 1) 0) vNil) f.slots ((L.length + 1) :: L.length :: hid)) := by
      refine ⟨rfl, fun w hw => ?_, H.D.n, by simp; omega, fun k hk hr => ?_⟩
      · rcases List.mem_cons.1 hw with rfl | hw
        · refine ⟨?_, Nat.zero_le _⟩
          unfold FlD
          rw [if_neg (by simp), if_neg (by simp)]
          simp only
          rw [hset L.length (by omega) (by omega), hself]
          exact ⟨c4', hv c4', .inl rfl⟩
        · exact hfl w hw
      · obtain ⟨nm, h1, h2⟩ := H.D.r k hk hr
        have : L ++ [[], []] = (L ++ [[]]) ++ [[]] := by simp
        exact ⟨nm, by rw [this]; exact getElem_app_some h1, h2⟩
    have H' := H.wr (vars' := a.vars.set (f.slots.getD (L.length + 1) 0) vNil) (ops' := []) (pc' := m + 3) (seg' := ⟨19, n, 0, e⟩ :: ⟨4, 0, vals.length + hid.length, 0⟩ :: seg) (by simp) hvo (K.set (K.intest F hB hK)) hD (by simp) (nr_cons (by simp) nr)
    refine ⟨0, _, g1.trans g2, .inl ⟨ρ, ?_⟩⟩
    rw [stepN_one H.S.di, H.is, hI]
    have S' := H'.S
    rw [hhv] at S'
    have e2 : f.pc + 1 + 1 = m + 3 := by omega
    simp only [e2, ho]
    exact S'

theorem Hd.intestT {n e m q : Nat} {s t : Str} {bd : StL} (H : Hd G root Ps Fs i a ρ x y f fs (⟨19, n, 0, e⟩ :: ⟨4, 0, vals.length + hid.length, 0⟩ :: seg) ts vs vals p j ids od (L ++ [[], []]) ((L.length + 1) :: L.length :: hid) ((L.length, 0) :: fl)) (F : InD G Ps Fs j n s t bd L lc m q) (hpc : f.pc = m + 3) (hB : Bd i.envs ρ e (Dy f.slots od L)) (hK : KK G Ps Fs i ρ f od vals j false (q + 3) seg 0 L hid lc fl) (hm : f.ops.length = 0) (hkn : KeyN a.tabs) : Adv G root Ps Fs i a := by
  have ho : f.ops = [] := List.eq_nil_of_length_eq_zero hm
  have hns := F.ns
  have nr := nr_tl H.V.nr
  have hsl : f.slots.length = (pr Ps j).ns := H.D.n
  have hop : OpLt 0 fl := hK.oplt
  have hh := hK.hidden
  have hidl : ∀ {s : Nat}, L[s]? = some [] → s < L.length := fun h => (List.getElem?_eq_some_iff.1 h).1
  have hT := (H.D.f (L.length, 0) (by simp)).1
  unfold FlD at hT
  rw [if_neg (by simp), if_neg (by simp)] at hT
  simp only at hT
  obtain ⟨t4, tN, tK⟩ := hT
  obtain ⟨k, v, hkv⟩ : ∃ k v, tNext (a.tabs.getD (sv a f L.length).N []) (sv a f (L.length + 1)) = some (k, v) := by
    unfold tNext
    rcases tK with h | ⟨w, h⟩
    · rw [if_pos h]; exact ⟨_, _, rfl⟩
    · by_cases h0 : (sv a f (L.length + 1)).T = 0
      · rw [if_pos h0]; exact ⟨_, _, rfl⟩
      · rw [if_neg h0, h]; exact ⟨_, _, rfl⟩
  obtain ⟨W, hW⟩ : ∃ W, W = ((a.vars.set (f.slots.getD (L.length + 1) 0) k).set (f.slots.getD (L.length + 2) 0) k).set (f.slots.getD (L.length + 3) 0) v := ⟨_, rfl⟩
  obtain ⟨s1, h1⟩ := next_step (Ps := Ps) (y := y) (fs := fs) (f := f) (vars := a.vars) (z := L.length) H.hac H.S.da H.hk (by rw [hpc]; exact F.i3) (by omega) (by omega)
  rw [if_neg (show ¬ ((a.vars.getD (f.slots.getD L.length 0) vNil).T ≠ 4) from fun h => h t4)] at h1
  have hkv' : tNext (a.tabs.getD (a.vars.getD (f.slots.getD L.length 0) vNil).N []) (a.vars.getD (f.slots.getD (L.length + 1) 0) vNil) = some (k, v) := hkv
  rw [hkv'] at h1
  simp only [← hW] at h1
  rw [H.ai] at h1 s1
  have g1 : Go Ps a (mkA a y fs { f with ops := vBool (decide (k.T ≠ 0)) :: f.ops, pc := f.pc + 1 } W) := by rw [← h1]; exact .one s1
  have htr : ∀ b : Bool, trV (vBool b) = b := fun b => by cases b <;> rfl
  have g2 := go_jf (Ps := Ps) (y := y) (fs := fs) (f := { f with ops := vBool (decide (k.T ≠ 0)) :: f.ops, pc := f.pc + 1 }) (vars := W) H.hac H.S.da H.hk rfl (by show cod Ps j (f.pc + 1) = _; rw [hpc]; exact F.i4) (by show f.pc + 1 < q + 2; have := F.l4; omega) ⟨_, F.j2⟩ (by simp [ho])
  rw [htr] at g2
  have hne : ∀ a1 b1, a1 < f.slots.length → b1 < f.slots.length → a1 ≠ b1 → f.slots.getD a1 0 ≠ f.slots.getD b1 0 := fun a1 b1 ha hb hab he => hab (slot_inj H.snd ha hb he)
  have hWo : ∀ z, z < f.slots.length → z ≠ L.length + 1 → z ≠ L.length + 2 → z ≠ L.length + 3 → W.getD (f.slots.getD z 0) vNil = sv a f z := fun z hz z1 z2 z3 => by
    rw [hW, getD_set_ne (hne _ _ (by omega) hz (fun h => z3 h.symm)), getD_set_ne (hne _ _ (by omega) hz (fun h => z2 h.symm)), getD_set_ne (hne _ _ (by omega) hz (fun h => z1 h.symm))]
  have hWl : W.length = a.vars.length := by rw [hW]; simp
  have hW3 : W.getD (f.slots.getD (L.length + 3) 0) vNil = v := by rw [hW]; exact getD_set_self (by simp only [List.length_set]; exact H.slt _ (getD_mem (by omega))) v
  have hW2 : W.getD (f.slots.getD (L.length + 2) 0) vNil = k := by rw [hW, getD_set_ne (hne _ _ (by omega) (by omega) (by omega))]; exact getD_set_self (by simp only [List.length_set]; exact H.slt _ (getD_mem (by omega))) k
  have hW1 : W.getD (f.slots.getD (L.length + 1) 0) vNil = k := by rw [hW, getD_set_ne (hne _ _ (by omega) (by omega) (by omega)), getD_set_ne (hne _ _ (by omega) (by omega) (by omega))]; exact getD_set_self (H.slt _ (getD_mem (by omega))) k
  have hfr : ∀ z, L.length ≤ z → z < f.slots.length → f.slots.getD z 0 ∉ ρ := fun z hz hz2 => H.free hz2 (fun nm h => by
    rw [List.getElem?_append_right hz] at h
    rcases hq : z - L.length with _ | _ | w
    · rw [hq] at h; simpa using h.symm
    · rw [hq] at h; simpa using h.symm
    · rw [hq] at h; simp at h)
  have hWv : ∀ z, (z ∉ f.slots ∨ z ∈ ρ) → W.getD z vNil = a.vars.getD z vNil := fun z hz => by
    have key : ∀ w, L.length ≤ w → w < f.slots.length → f.slots.getD w 0 ≠ z := fun w hw hw2 he => by subst he; rcases hz with h | h; exact h (getD_mem hw2); exact hfr w hw hw2 h
    rw [hW, getD_set_ne (key _ (by omega) (by omega)), getD_set_ne (key _ (by omega) (by omega)), getD_set_ne (key _ (by omega) (by omega))]
  have hhid : hvs W f.slots hid = hvs a.vars f.slots hid := hvs_congr (fun z hz => by have := hidl (hh.1 z hz); exact hWo z (by omega) (by omega) (by omega) (by omega))
  have hfl : ∀ w ∈ fl, FlD W a.tabs f.slots [] w ∧ w.2 ≤ 2 := fun w hw => by
    have h1 := H.D.f w (by simp [hw])
    refine ⟨((h1.1.ops (ops' := []) (fun h2 => absurd (hop w hw h2) (by omega))).ext (es := i.envs) (ρ := []) (clos := a.clos) (es' := i.envs) (ρ' := []) (clos' := a.clos) (M := fun _ => True) ⟨EnvExt.refl _, fun _ _ => rfl, fun _ h => .inl h, fun _ _ _ h => absurd trivial h, fun _ _ h => h, TabExt.refl _⟩ h1.2 (fun k hk => ?_)), h1.2⟩
    have := hidl (hh.2 w hw k hk)
    exact hWo _ (by omega) (by omega) (by omega) (by omega)
  have hvv : vs = sv a f (L.length + 1) :: sv a f L.length :: hvs a.vars f.slots hid := by rw [H.vv, ho]; rfl
  have hN := F.nm
  simp only [IsNm] at hN
  obtain ⟨n1, n2, n3, n4, n5, n6, n7⟩ := hN
  have ht2 : (mkI i x (⟨4, 0, vals.length + hid.length, 0⟩ :: seg ++ ⟨3, p, vals.length, 0⟩ :: ts) (vs ++ vals)).tabs = a.tabs := H.S.tabs
  have hI : istep1 G root ⟨19, n, 0, e⟩ i (mkI i x (⟨4, 0, vals.length + hid.length, 0⟩ :: seg ++ ⟨3, p, vals.length, 0⟩ :: ts) (vs ++ vals)) = if k.T = 0 then mkI i x (⟨4, 0, vals.length + hid.length, 0⟩ :: seg ++ ⟨3, p, vals.length, 0⟩ :: ts) (hvs a.vars f.slots hid ++ vals) else mkI { i with envs := i.envs ++ [⟨s, k, e⟩, ⟨t, v, i.envs.length + 1⟩] } x (⟨1, (nd G n).C, 0, i.envs.length + 2⟩ :: ⟨20, n, 0, e⟩ :: ⟨4, 0, vals.length + hid.length, 0⟩ :: seg ++ ⟨3, p, vals.length, 0⟩ :: ts) ((k :: sv a f L.length :: hvs a.vars f.slots hid) ++ vals) := by
    simp only [istep1, Nat.reduceEqDiff, if_false, if_true]
    rw [mkI_top H.hic, mkI_top H.hic, ht2]
    have e1 : (vs ++ vals).getD 1 vNil = sv a f L.length := by rw [hvv]; rfl
    have e2 : (vs ++ vals).getD 0 vNil = sv a f (L.length + 1) := by rw [hvv]; rfl
    rw [e1, e2, hkv]
    simp only [Option.getD_some]
    split
    · rw [mkI_drop H.hic, hvv]; rfl
    · rw [mkI_th H.hic, mkI_setT H.hic]
      have e3 : ({ i with ths := i.ths.set i.cur { x with tasks := ⟨4, 0, vals.length + hid.length, 0⟩ :: seg ++ ⟨3, p, vals.length, 0⟩ :: ts, vals := (vs ++ vals).set 0 k } } : IS) = mkI i x (⟨4, 0, vals.length + hid.length, 0⟩ :: seg ++ ⟨3, p, vals.length, 0⟩ :: ts) ((k :: sv a f L.length :: hvs a.vars f.slots hid) ++ vals) := by rw [hvv]; rfl
      have e4 : ∀ (E : List Env) (T : List Tk) (V : List PV), ({ mkI i x T V with envs := E } : IS) = mkI { i with envs := E } x T V := fun _ _ _ => rfl
      simp only [e3, mkI_do H.hic, inew, IS.last, e4, n3, n6]
      simp [mkI]
      exact mkI_do (i := { i with envs := i.envs ++ [⟨s, k, e⟩, ⟨t, v, i.envs.length + 1⟩] }) (x := x) (T := ⟨20, n, 0, e⟩ :: ⟨4, 0, vals.length + hid.length, 0⟩ :: (seg ++ ⟨3, p, vals.length, 0⟩ :: ts)) (V := k :: sv a f L.length :: (hvs a.vars f.slots hid ++ vals)) H.hic 1 (nd G n).C 0 (i.envs.length + 2)
  by_cases hk0 : k.T = 0
  · rw [if_pos hk0] at hI
    rw [if_neg (by simp [hk0])] at g2
    have hD : FrD Ps W a.tabs ρ f.slots j (L ++ [[], []]) hid fl [] ([] ++ hvs W f.slots hid) := ⟨rfl, hfl, H.D.n, H.D.l, H.D.r⟩
    have hlen := H.D.l
    have H' := H.wr (vars' := W) (ops' := []) (pc' := q + 2) (seg' := ⟨4, 0, vals.length + hid.length, 0⟩ :: seg) (lc' := lc) hWl hWv (K.close F.j2 (by simp) hlen (by rw [List.take_append_of_le_length (Nat.le_refl _), List.take_length]; exact K.set (K.loop hK))) hD (by simp) nr
    refine ⟨0, _, g1.trans g2, .inl ⟨ρ, ?_⟩⟩
    rw [stepN_one H.S.di, H.is, hI]
    have S' := H'.S
    rw [hhid] at S'
    simp only [ho]
    exact S'
  · rw [if_neg hk0] at hI
    rw [if_pos (by simp [hk0])] at g2
    have hfl2 : ∀ w ∈ (L.length, 0) :: fl, FlD W a.tabs f.slots [] w ∧ w.2 ≤ 2 := fun w hw => by
      rcases List.mem_cons.1 hw with rfl | hw
      · refine ⟨?_, Nat.zero_le _⟩
        unfold FlD
        rw [if_neg (by simp), if_neg (by simp)]
        simp only
        rw [hWo L.length (by omega) (by omega) (by omega) (by omega), hW1]
        refine ⟨t4, tN, .inr (next_key hkv hk0 (fun z hz => hkn _ ?_ z hz))⟩
        rw [getD_of (List.getElem?_eq_getElem tN)]
        exact List.getElem_mem tN
      · exact hfl w hw
    have hB2 : Bd i.envs ρ e (Dy f.slots od (L ++ [[], []])) := by rw [Dy_h2]; exact hB
    have hl2 : (L ++ [[], []]).length = L.length + 2 := by simp
    have hhv2 : hvs W f.slots ((L.length + 1) :: L.length :: hid) = k :: sv a f L.length :: hvs a.vars f.slots hid := by
      have e0 : hvs W f.slots ((L.length + 1) :: L.length :: hid) = W.getD (f.slots.getD (L.length + 1) 0) vNil :: W.getD (f.slots.getD L.length 0) vNil :: hvs W f.slots hid := rfl
      rw [e0, hW1, hWo L.length (by omega) (by omega) (by omega) (by omega), hhid]
    have hbk : BK G Ps Fs (Bd i.envs ρ) f.slots od vals.length j ((L.length, q + 2) :: lc) (⟨20, n, 0, e⟩ :: ⟨4, 0, vals.length + hid.length, 0⟩ :: seg) (L ++ [[], [], s, t]) ((L.length + 1) :: L.length :: hid) ((L.length, 0) :: fl) := by
      refine .some (ts' := seg) (hid0 := hid) rfl ⟨[L.length + 1, L.length], rfl⟩ ⟨[(L.length, 0)], rfl⟩ (by simp) ?_
      rw [List.take_append_of_le_length (Nat.le_refl _), List.take_length]
      exact .close F.j2 (Nat.le_refl _) (by omega) (by rw [List.take_length]; exact hK)
    have eapp : L ++ [[], []] ++ [s, t] = L ++ [[], [], s, t] := by simp
    obtain ⟨ρ', S'⟩ := H.bind2g (lc := (L.length, q + 2) :: lc) (e := e) (s := s) (t := t) (v1 := k) (v0 := v) (vars' := W) (vs' := k :: sv a f L.length :: hvs a.vars f.slots hid) (hid' := (L.length + 1) :: L.length :: hid) (fl' := (L.length, 0) :: fl) (n := (nd G n).C) (pc' := m + 5) (pc2 := q) (L0 := L ++ [[], [], s, t]) (seg' := ⟨20, n, 0, e⟩ :: ⟨4, 0, vals.length + hid.length, 0⟩ :: seg)
      F.hs F.ht (by rw [hl2]; omega) hB2 hWl hWv (by rw [hl2]; exact hW2) (by rw [hl2]; exact hW3) hhv2.symm hfl2 F.hbd (by rw [eapp]; exact F.cb) (by rw [eapp]; exact List.prefix_refl _) hbk (.set (.inback F hB hK)) (nr_cons (by simp) nr)
    refine ⟨0, _, g1.trans g2, .inl ⟨ρ', ?_⟩⟩
    rw [stepN_one H.S.di, H.is, hI]
    have e2 : f.pc + 1 + 1 = m + 5 := by omega
    simp only [e2, ho]
    exact S'

theorem Hd.inbackT {n e m q : Nat} {s t : Str} {bd : StL} (H : Hd G root Ps Fs i a ρ x y f fs (⟨20, n, 0, e⟩ :: ⟨4, 0, vals.length + hid.length, 0⟩ :: seg) ts vs vals p j ids od (L ++ [[], [], s, t]) ((L.length + 1) :: L.length :: hid) ((L.length, 0) :: fl)) (F : InD G Ps Fs j n s t bd L lc m q) (hpc : f.pc = q) (hB : Bd i.envs ρ e (Dy f.slots od L)) (hK : KK G Ps Fs i ρ f od vals j false (q + 3) seg 0 L hid lc fl) (hm : f.ops.length = 0) : Adv G root Ps Fs i a := by
  subst hpc
  have ho : f.ops = [] := List.eq_nil_of_length_eq_zero hm
  have hns := F.ns
  have nr := nr_tl H.V.nr
  have htk : (L ++ [[], [], s, t]).take (L.length + 2) = L ++ [[], []] := by
    rw [show L ++ [[], [], s, t] = (L ++ [[], []]) ++ [s, t] by simp]; exact List.take_left' (by simp)
  have H1 := H.close (n := L.length + 2) ho (by omega) (List.suffix_refl _) (pc' := m + 3) (seg' := ⟨19, n, 0, e⟩ :: ⟨4, 0, vals.length + hid.length, 0⟩ :: seg) (hid' := (L.length + 1) :: L.length :: hid) (lc' := lc) (by rw [htk]; exact K.set (K.intest F hB hK)) (nr_cons (by simp) nr)
  have g1 := go_close (y := y) (fs := fs) (vars := a.vars) H.hac H.S.da H.hk F.j0 (by omega) H.o
  rw [H.ai] at g1
  refine H.back (k := 0) (k2 := 19) (n := n) (e := e) (top := m + 3) (vs' := hvs a.vars f.slots ((L.length + 1) :: L.length :: hid)) (ρ' := ρ) (lc' := lc) (fl' := fl) (hid' := hid) (L' := L) (seg' := seg) (es' := []) ?_ g1 H1.S rfl F.j1 F.l1 ⟨_, F.i3⟩ H.o
  have e1 : vs = hvs a.vars f.slots ((L.length + 1) :: L.length :: hid) := by rw [H.vv, ho]; rfl
  rw [e1]
  simp [istep1]
end

end Go.Proofs.Qxb6500568aGreatDoor
