import Derived.Test.Qxb6500568aGreatDoorLq
namespace Go.Proofs.Qxb6500568aGreatDoor
open Ieee
set_option linter.unusedVariables false
set_option linter.unusedSimpArgs false
set_option linter.unusedSectionVars false

/-! Tasks of expressions. -/

section
variable {G : Arena} {root : Nat} {Ps : List Proto} {Fs : Nat → FI} {i : IS} {a : AS} {ρ : List Nat} {x : ITh} {y : ATh} {f : AFr} {fs : List AFr} {seg ts : List Tk} {vs vals : List PV} {p j : Nat} {ids : List Nat} {od : List (Str × Nat)} {L : List Str} {hid : List Nat} {lc : List (Nat × Nat)} {fl : List (Nat × Nat)} {t : Tk}

theorem Hd.throw (H : Hd G root Ps Fs i a ρ x y f fs seg ts vs vals p j ids od L hid fl) {seg' : List Tk} {pre : List PV} {f' : AFr} (hpf : f'.prot = f.prot) (hsl : f'.slots = f.slots) (nr : ∀ t ∈ seg', t.k ≠ 3) (v : PV) :
    Rel G root Ps Fs (ithrow v (mkI i x (seg' ++ ⟨3, p, vals.length, 0⟩ :: ts) (pre ++ vals))) (athrow v (mkA a y fs f' a.vars)) := by
  have h := throw_core H.S.toSim0 (V := pre ++ vals) (T := seg' ++ ⟨3, p, vals.length, 0⟩ :: ts) (F := f' :: fs) (D := fs.length + 1) H.V.hx H.V.hy H.V.st H.V.fn ?_ (by rw [H.V.hf]; simp [frSl, hsl]) v
  · rw [← H.V.dp] at h; exact h
  · rw [thrL_seg nr]
    simp only [thrL, if_true, Nat.add_sub_cancel]
    by_cases hp : p = 1
    · left
      have hne : fs ≠ [] := fun h => by have := H.V.p0 h; omega
      exact ⟨fs, ts, vals, pre, by simp [unwL, hpf, H.V.pr, hp, hne], by simp [hp], H.V.fl, hne, rfl, by simp [frSl]⟩
    · have hu : unwL (f' :: fs) = unwL fs := by simp [unwL, hpf, H.V.pr, hp]
      rw [hu, if_neg hp]
      rcases thr_unw H.V.fl with ⟨r, T', V', pre', k1, k2, k3, k4, k5, k6⟩ | k
      · exact .inl ⟨r, T', V', pre ++ pre', k1, k2, k3, k4, by rw [k5, List.append_assoc], k6.trans (by simp [frSl])⟩
      · exact .inr k
theorem Hd.throw0 (H : Hd G root Ps Fs i a ρ x y f fs seg ts vs vals p j ids od L hid fl) {seg' : List Tk} {pre : List PV} (nr : ∀ t ∈ seg', t.k ≠ 3) (v : PV) :
    Rel G root Ps Fs (ithrow v (mkI i x (seg' ++ ⟨3, p, vals.length, 0⟩ :: ts) (pre ++ vals))) (athrow v a) := by
  have := H.throw (f' := f) rfl rfl nr v (pre := pre)
  rw [H.ai] at this
  exact this

theorem Hd.sound (H : Hd G root Ps Fs i a ρ x y f fs seg ts vs vals p j ids od L hid fl) {op z : Nat} (h1 : cod Ps j f.pc = some (op, z)) (h2 : rngO Ps a op z) (h3 : needO op z ≤ f.ops.length) (h5 : growsO op = true → f.ops.length < 128) (h6 : op = 26 → f.ops.length + 1 ≤ 128 + z) : Snd Ps a op z := by
  have := snd_mk (Ps := Ps) (y := y) (fs := fs) (vars := a.vars) H.hac H.S.da H.hk h1 (by rw [H.ai]; exact h2) h3 H.o h5 h6
  rwa [H.ai] at this
theorem Hd.plain (H : Hd G root Ps Fs i a ρ x y f fs seg ts vs vals p j ids od L hid fl) {op z : Nat} (h1 : cod Ps j f.pc = some (op, z)) (h21 : op ≠ 21) (h22 : op ≠ 22) (h23 : op ≠ 23) (h24 : op ≠ 24) (h26 : op ≠ 26) (h27 : op ≠ 27) : astep Ps a = aplain Ps op z (mkA a y fs f a.vars) := by
  have := step_mk (Ps := Ps) (y := y) (fs := fs) (vars := a.vars) H.hac H.S.da H.hk h1 h21 h22 h23 h24 h26 h27
  rw [H.ai] at this ⊢
  exact this
theorem Hd.pro (H : Hd G root Ps Fs i a ρ x y f fs seg ts vs vals p j ids od L hid fl) : a.pro = j := by rw [← H.ai]; exact mk_pro H.hac H.hk
theorem Hd.idse (H : Hd G root Ps Fs i a ρ x y f fs seg ts vs vals p j ids od L hid fl) : a.ids = ids := by rw [← H.ai]; exact mk_ids H.hac H.hk

/-- what an operator leaves. -/
def resA (a : AS) (y : ATh) (fs : List AFr) (f : AFr) (l : List PV) : Res → AS
  | .ok v => mkA a y fs { f with ops := v :: l, pc := f.pc + 1 } a.vars
  | .error m => araise m a
/-- an operator: its value on what is left, or an error. -/
theorem Hd.res (H : Hd G root Ps Fs i a ρ x y f fs (t :: seg) ts vs vals p j ids od L hid fl) {op z : Nat} {r : Res} {d l : List PV} (ho : f.ops = d ++ l) (hs : Snd Ps a op z)
    (hI : istep1 G root t i (mkI i x (seg ++ ⟨3, p, vals.length, 0⟩ :: ts) (vs ++ vals)) = ires r (mkI i x (seg ++ ⟨3, p, vals.length, 0⟩ :: ts) ((l ++ hvs a.vars f.slots hid) ++ vals)))
    (hA : astep Ps a = resA a y fs f l r) (hl : l.length + 1 ≤ 128) (hop : OpLt l.length fl) (hK : KK G Ps Fs i ρ f od vals j false (f.pc + 1) seg (l.length + 1) L hid lc fl) : Adv G root Ps Fs i a := by
  cases r with
  | ok v =>
    refine H.to (l' := v :: l) (seg' := seg) (pc' := f.pc + 1) ?_ ?_ (by simpa using hl) (by rw [ho]; exact OpSame.of hop d [v]) hK (nr_tl H.V.nr)
    · rw [hI]; show ipush v _ = _; rw [mkI_push H.hic]; rfl
    · have hA : astep Ps a = mkA a y fs { f with ops := v :: l, pc := f.pc + 1 } a.vars := hA
      rw [H.ai, ← hA]; exact .one hs
  | error m =>
    refine ⟨0, astep Ps a, .one hs, ?_⟩
    rw [stepN_one H.S.di, H.is, hI, hA]
    exact H.throw0 (nr_tl H.V.nr) _

theorem tops {l V : List PV} (n : Nat) (h : n < l.length) : (l ++ V).getD n vNil = l.getD n vNil := by simp only [List.getD_eq_getElem?_getD]; rw [List.getElem?_append_left h]

theorem two_ops {l : List PV} {m : Nat} (h : l.length = m + 2) : ∃ u v r, l = u :: v :: r ∧ r.length = m := by
  match l, h with
  | u :: v :: r, h => exact ⟨u, v, r, rfl, by simpa using h⟩
theorem one_op {l : List PV} {m : Nat} (h : l.length = m + 1) : ∃ u r, l = u :: r ∧ r.length = m := by
  match l, h with
  | u :: r, h => exact ⟨u, r, rfl, by simpa using h⟩
theorem three_ops {l : List PV} (h : l.length = 3) : ∃ u v w, l = [u, v, w] := by
  match l, h with
  | [u, v, w], h => exact ⟨u, v, w, rfl⟩

theorem Hd.rsk (H : Hd G root Ps Fs i a ρ x y f fs seg ts vs vals p j ids od L hid fl) (r : List PV) (R : Res) : (match R with | .ok v => apc ((mkA a y fs f a.vars).fr.pc + 1) (aops (v :: r) (mkA a y fs f a.vars)) | .error m => araise m (mkA a y fs f a.vars)) = resA a y fs f r R := by
  cases R with
  | ok v => simp only [mk_fr H.hac, mk_ops H.hac, mk_pc H.hac, resA]
  | error m => simp only [H.ai, resA]
theorem Hd.bin {n m : Nat} (H : Hd G root Ps Fs i a ρ x y f fs (⟨24, n, 0, 0⟩ :: seg) ts vs vals p j ids od L hid fl) (hc : cod Ps j f.pc = some (binI (nd G n).N)) (hr : (nd G n).N = 20 ∨ (11 ≤ (nd G n).N ∧ (nd G n).N ≤ 16) ∨ (1 ≤ (nd G n).N ∧ (nd G n).N ≤ 6)) (hm : f.ops.length = m + 2) (hK : KK G Ps Fs i ρ f od vals j false (f.pc + 1) seg (m + 1) L hid lc fl) (hop : OpLt m fl) : Adv G root Ps Fs i a := by
  obtain ⟨u, v, r, ho, hrl⟩ := two_ops hm
  obtain ⟨N, hN⟩ : ∃ N, (nd G n).N = N := ⟨_, rfl⟩
  rw [hN] at hc hr
  have hov := H.o
  have hI : istep1 G root ⟨24, n, 0, 0⟩ i (mkI i x (seg ++ ⟨3, p, vals.length, 0⟩ :: ts) (vs ++ vals)) = ires (binV N v u) (mkI i x (seg ++ ⟨3, p, vals.length, 0⟩ :: ts) ((r ++ hvs a.vars f.slots hid) ++ vals)) := by
    simp only [istep1]
    simp [mkI_top H.hic, mkI_drop H.hic, H.vv, ho, hN]
  rcases hr with rfl | hr | hr
  · have hc : cod Ps j f.pc = some (17, 0) := hc
    refine H.res (op := 17) (z := 0) (r := binV 20 v u) (d := [u, v]) (l := r) ho (H.sound hc (rng_none (by simp)) (by simp [needO, hm]) (by simp [growsO]) (by simp)) hI ?_ (by omega) (by rw [hrl]; exact hop) (by rw [hrl]; exact hK)
    rw [H.plain hc (by omega) (by omega) (by omega) (by omega) (by omega) (by omega), ← H.rsk r]
    unfold aplain
    simp only [mk_fr H.hac, ho]
    cases hb : binV 20 v u <;> simp [hb]
  · obtain ⟨z, hz⟩ : ∃ z, N = z + 10 := ⟨N - 10, by omega⟩
    subst hz
    have hc : cod Ps j f.pc = some (16, z) := by rw [hc]; unfold binI; rw [if_neg (by omega), if_pos (by omega), Nat.add_sub_cancel]
    refine H.res (op := 16) (z := z) (r := binV (z + 10) v u) (d := [u, v]) (l := r) ho (H.sound hc (rng15 (.inr rfl) (by omega)) (by simp [needO, hm]) (by simp [growsO]) (by simp)) hI ?_ (by omega) (by rw [hrl]; exact hop) (by rw [hrl]; exact hK)
    rw [H.plain hc (by omega) (by omega) (by omega) (by omega) (by omega) (by omega), ← H.rsk r]
    unfold aplain
    simp only [mk_fr H.hac, ho]
    cases hb : binV (z + 10) v u <;> simp [hb]
  · have hc : cod Ps j f.pc = some (15, N) := by rw [hc]; unfold binI; rw [if_neg (by omega), if_neg (by omega)]
    refine H.res (op := 15) (z := N) (r := binV N v u) (d := [u, v]) (l := r) ho (H.sound hc (rng15 (.inl rfl) (by omega)) (by simp [needO, hm]) (by simp [growsO]) (by simp)) hI ?_ (by omega) (by rw [hrl]; exact hop) (by rw [hrl]; exact hK)
    rw [H.plain hc (by omega) (by omega) (by omega) (by omega) (by omega) (by omega), ← H.rsk r]
    unfold aplain
    simp only [mk_fr H.hac, ho]
    cases hb : binV N v u <;> simp [hb]
theorem Hd.un {n m : Nat} (H : Hd G root Ps Fs i a ρ x y f fs (⟨25, n, 0, 0⟩ :: seg) ts vs vals p j ids od L hid fl) (hc : cod Ps j f.pc = some (unI (nd G n).N)) (h1 : 1 ≤ (nd G n).N) (h3 : (nd G n).N ≤ 3) (hm : f.ops.length = m + 1) (hK : KK G Ps Fs i ρ f od vals j false (f.pc + 1) seg (m + 1) L hid lc fl) (hop : OpLt m fl) : Adv G root Ps Fs i a := by
  obtain ⟨u, r, ho, hrl⟩ := one_op hm
  obtain ⟨N, hN⟩ : ∃ N, (nd G n).N = N := ⟨_, rfl⟩
  rw [hN] at hc h1 h3
  have hov := H.o
  have ht : (mkA a y fs f a.vars).tabs = i.tabs := H.S.tabs.symm
  have hcase : N = 1 ∨ N = 2 ∨ N = 3 := by omega
  have hI : istep1 G root ⟨25, n, 0, 0⟩ i (mkI i x (seg ++ ⟨3, p, vals.length, 0⟩ :: ts) (vs ++ vals)) = ires (unV i.tabs N u) (mkI i x (seg ++ ⟨3, p, vals.length, 0⟩ :: ts) ((r ++ hvs a.vars f.slots hid) ++ vals)) := by
    simp only [istep1]
    simp [mkI_top H.hic, mkI_drop H.hic, H.vv, ho, hN]
    rfl
  rcases hcase with rfl | rfl | rfl
  · have hc : cod Ps j f.pc = some (19, 0) := hc
    refine H.res (op := 19) (z := 0) (r := unV i.tabs 1 u) (d := [u]) (l := r) ho (H.sound hc (rng_none (by simp)) (by simp [needO, hm]) (by simp [growsO]) (by simp)) hI ?_ (by omega) (by rw [hrl]; exact hop) (by rw [hrl]; exact hK)
    rw [H.plain hc (by omega) (by omega) (by omega) (by omega) (by omega) (by omega), ← H.rsk r]
    unfold aplain
    simp only [mk_fr H.hac, ho, ht]
    cases hb : unV i.tabs 1 u <;> simp [hb]
  · have hc : cod Ps j f.pc = some (18, 0) := hc
    refine H.res (op := 18) (z := 0) (r := unV i.tabs 2 u) (d := [u]) (l := r) ho (H.sound hc (rng_none (by simp)) (by simp [needO, hm]) (by simp [growsO]) (by simp)) hI ?_ (by omega) (by rw [hrl]; exact hop) (by rw [hrl]; exact hK)
    rw [H.plain hc (by omega) (by omega) (by omega) (by omega) (by omega) (by omega), ← H.rsk r]
    unfold aplain
    simp only [mk_fr H.hac, ho, ht]
    cases hb : unV i.tabs 2 u <;> simp [hb]
  · have hc : cod Ps j f.pc = some (20, 0) := hc
    refine H.res (op := 20) (z := 0) (r := unV i.tabs 3 u) (d := [u]) (l := r) ho (H.sound hc (rng_none (by simp)) (by simp [needO, hm]) (by simp [growsO]) (by simp)) hI ?_ (by omega) (by rw [hrl]; exact hop) (by rw [hrl]; exact hK)
    rw [H.plain hc (by omega) (by omega) (by omega) (by omega) (by omega) (by omega), ← H.rsk r]
    unfold aplain
    simp only [mk_fr H.hac, ho, ht]
    cases hb : unV i.tabs 3 u <;> simp [hb]
theorem Hd.index {m : Nat} (H : Hd G root Ps Fs i a ρ x y f fs (⟨28, 0, 0, 0⟩ :: seg) ts vs vals p j ids od L hid fl) (hc : cod Ps j f.pc = some (11, 0)) (hm : f.ops.length = m + 2) (hK : KK G Ps Fs i ρ f od vals j false (f.pc + 1) seg (m + 1) L hid lc fl) (hop : OpLt m fl) : Adv G root Ps Fs i a := by
  obtain ⟨u, v, r, ho, hrl⟩ := two_ops hm
  have hov := H.o
  have ht : (mkA a y fs f a.vars).tabs = i.tabs := H.S.tabs.symm
  refine H.res (op := 11) (z := 0) (r := if v.T ≠ 4 then .error mIndex else .ok (tGet (i.tabs.getD v.N []) u)) (d := [u, v]) (l := r) ho (H.sound hc (rng_none (by simp)) (by simp [needO, hm]) (by simp [growsO]) (by simp)) ?_ ?_ (by omega) (by rw [hrl]; exact hop) (by rw [hrl]; exact hK)
  · simp only [istep1]
    simp only [mkI_top H.hic, mkI_drop H.hic, H.vv, ho]
    by_cases c : v.T = 4
    · simp [c, ires, mkI_push H.hic]; rfl
    · simp [c, ires]
  · rw [H.plain hc (by omega) (by omega) (by omega) (by omega) (by omega) (by omega)]
    unfold aplain
    simp only [mk_fr H.hac, ho, ht]
    by_cases c : v.T = 4
    · simp [c, mk_ops H.hac, mk_pc H.hac, resA]
    · simp [c, H.ai, resA]
theorem Hd.popT {n z e m : Nat} (H : Hd G root Ps Fs i a ρ x y f fs (⟨5, n, z, e⟩ :: seg) ts vs vals p j ids od L hid fl) (hc : cod Ps j f.pc = some (25, 0)) (hm : f.ops.length = m + 1) (hK : KK G Ps Fs i ρ f od vals j false (f.pc + 1) seg m L hid lc fl) : Adv G root Ps Fs i a := by
  obtain ⟨u, r, ho, hrl⟩ := one_op hm
  have hov := H.o
  refine H.to (l' := r) (seg' := seg) (pc' := f.pc + 1) ?_ (go_pop H.hac H.S.da H.hk ho hc H.o) (by omega) (by rw [ho]; exact OpSame.of (by rw [hrl]; exact hK.oplt) [u] []) (by rw [hrl]; exact hK) (nr_tl H.V.nr)
  simp only [istep1]
  simp [mkI_drop H.hic, H.vv, ho]
theorem Hd.short {k n e m : Nat} {ex : Ex} {b op : Nat} (H : Hd G root Ps Fs i a ρ x y f fs (⟨k, n, 0, e⟩ :: seg) ts vs vals p j ids od L hid fl) (hop : (k = 26 ∧ op = 23) ∨ (k = 27 ∧ op = 24)) (hE : IsE G (nd G n).B ex) (hB : Bd i.envs ρ e (Dy f.slots od L)) (hc : cod Ps j f.pc = some (op, b)) (hb : f.pc < b) (hC : CE Ps Fs j L ex (f.pc + 1) b) (hd : m + dE ex ≤ 128) (hm : f.ops.length = m + 1)
    (hK : KK G Ps Fs i ρ f od vals j false b seg (m + 1) L hid lc fl) (hlt : OpLt m fl) : Adv G root Ps Fs i a := by
  obtain ⟨u, r, ho, hrl⟩ := one_op hm
  have hov := H.o
  have hA := go_short (y := y) (fs := fs) (vars := a.vars) H.hac H.S.da H.hk ho (by omega) hc hb hK.code H.o
  have hI : istep1 G root ⟨k, n, 0, e⟩ i (mkI i x (seg ++ ⟨3, p, vals.length, 0⟩ :: ts) (vs ++ vals)) = if trV u = decide (op = 24) then mkI i x (seg ++ ⟨3, p, vals.length, 0⟩ :: ts) (vs ++ vals) else mkI i x (⟨2, (nd G n).B, 0, e⟩ :: seg ++ ⟨3, p, vals.length, 0⟩ :: ts) ((r ++ hvs a.vars f.slots hid) ++ vals) := by
    rcases hop with ⟨rfl, rfl⟩ | ⟨rfl, rfl⟩
    · simp only [istep1]
      simp only [mkI_top H.hic, mkI_drop H.hic, H.vv, ho, mkI_do H.hic]
      cases hu : trV u <;> simp [hu]
    · simp only [istep1]
      simp only [mkI_top H.hic, mkI_drop H.hic, H.vv, ho, mkI_do H.hic]
      cases hu : trV u <;> simp [hu]
  by_cases ht : trV u = decide (op = 24)
  · rw [if_pos ht] at hA hI
    refine H.to (l' := f.ops) (seg' := seg) (pc' := b) ?_ hA H.o (OpSame.refl _ _) (by rw [hm]; exact hK) (nr_tl H.V.nr)
    rw [hI, H.vv]
  · rw [if_neg ht] at hA hI
    refine H.to (lc := lc) (l' := r) (seg' := ⟨2, (nd G n).B, 0, e⟩ :: seg) (pc' := f.pc + 1) hI hA (by omega) (by rw [ho]; exact OpSame.of (by rw [hrl]; exact hlt) [u] []) ?_ (fun t h => ?_)
    · rw [hrl]; exact .set (.evl hE hB hC hd hlt hK)
    · rcases List.mem_cons.1 h with rfl | h
      · show 2 ≠ 3; decide
      · exact nr_tl H.V.nr t h
end

end Go.Proofs.Qxb6500568aGreatDoor
