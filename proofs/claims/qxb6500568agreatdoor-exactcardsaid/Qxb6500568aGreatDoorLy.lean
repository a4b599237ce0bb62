import Derived.Test.Qxb6500568aGreatDoorLx
namespace Go.Proofs.Qxb6500568aGreatDoor
open Ieee
set_option linter.unusedVariables false
set_option linter.unusedSimpArgs false
set_option linter.unusedSectionVars false

/-! A block goes on. -/

theorem aftS_setN {L : List Str} {s : Str} {v : Ex} : aftS L (St.setN s v) = L := rfl
theorem aftS_setI {L : List Str} {u k v : Ex} : aftS L (St.setI u k v) = L := rfl
theorem aftS_call {L : List Str} {f : Ex} {zs : ExL} : aftS L (St.call f zs) = L := rfl
theorem aftS_iff {L : List Str} {c : Ex} {t e : StL} : aftS L (St.iff c t e) = L := rfl
theorem aftS_whl {L : List Str} {c : Ex} {b : StL} : aftS L (St.whl c b) = L := rfl
theorem aftS_for2 {L : List Str} {s : Str} {u l : Ex} {b : StL} : aftS L (St.for2 s u l b) = L := rfl
theorem aftS_for3 {L : List Str} {s : Str} {u l o : Ex} {b : StL} : aftS L (St.for3 s u l o b) = L := rfl
theorem aftS_forIn {L : List Str} {s t : Str} {u : Ex} {b : StL} : aftS L (St.forIn s t u b) = L := rfl
theorem aftS_ret0 {L : List Str}  : aftS L (St.ret0) = L := rfl
theorem aftS_ret1 {L : List Str} {u : Ex} : aftS L (St.ret1 u) = L := rfl
theorem aftS_ret2 {L : List Str} {u v : Ex} : aftS L (St.ret2 u v) = L := rfl
theorem aftS_brk {L : List Str}  : aftS L (St.brk) = L := rfl

section
variable {G : Arena} {root : Nat} {Ps : List Proto} {Fs : Nat → FI} {i : IS} {a : AS} {ρ : List Nat} {x : ITh} {y : ATh} {f : AFr} {fs : List AFr} {seg ts : List Tk} {vs vals : List PV} {p j : Nat} {ids : List Nat} {od : List (Str × Nat)} {L : List Str} {hid : List Nat} {lc : List (Nat × Nat)} {fl : List (Nat × Nat)} {t : Tk}

theorem istmt_mk (hic : i.cur < i.ths.length) {n e : Nat} {T : List Tk} {V : List PV} (h1 : (nd G n).K ≠ 1) (h2 : (nd G n).K ≠ 2) (h3 : (nd G n).K ≠ 3) (h11 : (nd G n).K ≠ 11) : istmt G n e (mkI i x T V) =
    (let d := nd G n
     let T := ⟨1, d.Nx, 0, e⟩ :: T
     if d.K = 4 then (if (nd G d.A).K = 17 then mkI i x (⟨2, d.B, 0, e⟩ :: ⟨9, d.A, 0, e⟩ :: T) V else mkI i x (⟨2, (nd G d.A).A, 0, e⟩ :: ⟨2, (nd G d.A).B, 0, e⟩ :: ⟨2, d.B, 0, e⟩ :: ⟨10, 0, 0, e⟩ :: T) V)
     else if d.K = 5 then mkI i x (⟨2, d.A, 0, e⟩ :: ⟨5, 0, 0, 0⟩ :: T) V
     else if d.K = 6 then mkI i x (⟨2, d.A, 0, e⟩ :: ⟨11, n, 0, e⟩ :: T) V
     else if d.K = 7 then mkI i x (⟨12, n, 0, e⟩ :: ⟨4, 0, V.length, 0⟩ :: T) V
     else if d.K = 8 then mkI i x (⟨2, d.A, 0, e⟩ :: ⟨2, (nd G d.A).Nx, 0, e⟩ :: ⟨2, (nd G (nd G d.A).Nx).Nx, if (nd G (nd G d.A).Nx).Nx ≠ 0 then 0 else 1, e⟩ :: ⟨15, n, 0, e⟩ :: ⟨4, 0, V.length, 0⟩ :: T) V
     else if d.K = 9 then mkI i x (⟨2, d.B, 0, e⟩ :: ⟨18, n, 0, e⟩ :: ⟨4, 0, V.length, 0⟩ :: T) V
     else if d.K = 10 then mkI i x (⟨2, d.A, 0, e⟩ :: ⟨2, d.B, 0, e⟩ :: ⟨21, 0, 0, 0⟩ :: T) V
     else mkI i x T V) := by
  unfold istmt
  simp only [if_neg h1, if_neg h2, if_neg h3, if_neg h11, mkI_do hic, mkI_th hic]

theorem Hd.stmt {n e b : Nat} {s : St} {l : StL} {L0 : List Str} (H : Hd G root Ps Fs i a ρ x y f fs (⟨1, n, 0, e⟩ :: seg) ts vs vals p j ids od L hid fl) (hE : IsSL G n (.cons s l)) (hB : Bd i.envs ρ e (Dy f.slots od L)) (hC : CB Ps Fs j L0 L lc (.cons s l) f.pc b) (hp : L0 <+: L) (hl : L.length ≤ (pr Ps j).ns)
    (hbk : BK G Ps Fs (Bd i.envs ρ) f.slots od vals.length j lc seg L0 hid fl) (hK : KK G Ps Fs i ρ f od vals j false b seg 0 L0 hid lc fl) (hm : f.ops.length = 0) : Adv G root Ps Fs i a := by
  have ho : f.ops = [] := List.eq_nil_of_length_eq_zero hm
  have nr := nr_tl H.V.nr
  simp only [IsSL_nil, IsSL_cons] at hE
  obtain ⟨hn0, hS, hN⟩ := hE
  simp only [CB_nil, CB_cons] at hC
  obtain ⟨hal, m, hC, hCn⟩ := hC
  have hvl : (vs ++ vals).length = vals.length + hid.length := by rw [H.vv, ho]; simp [hvs]; omega
  have hop : OpLt 0 fl := hK.oplt
  have hI0 : istep1 G root ⟨1, n, 0, e⟩ i (mkI i x (seg ++ ⟨3, p, vals.length, 0⟩ :: ts) (vs ++ vals)) = istmt G n e (mkI i x (seg ++ ⟨3, p, vals.length, 0⟩ :: ts) (vs ++ vals)) := by
    simp only [istep1, if_true, hn0, ne_eq, not_false_eq_true]
  rcases hS.inv with ⟨s, rfl⟩ | ⟨s, v, rfl⟩ | ⟨s, t, g, zs, rfl⟩ | ⟨s, k, ps, bd, rfl⟩ | ⟨s, v, rfl⟩ | ⟨u, k, v, rfl⟩ | ⟨g, zs, rfl⟩ | ⟨c, t, g, rfl⟩ | ⟨c, bd, rfl⟩ | ⟨s, u, w, bd, rfl⟩ | ⟨s, u, w, o, bd, rfl⟩ | ⟨s, t, u, bd, rfl⟩ | rfl | ⟨u, rfl⟩ | ⟨u, v, rfl⟩ | rfl
  · simp only [IsS_loc, IsS_locV, IsS_loc2, IsS_locFn, IsS_setN, IsS_setI, IsS_call, IsS_iff, IsS_whl, IsS_for2, IsS_for3, IsS_forIn, IsS_ret0, IsS_ret1, IsS_ret2, IsS_brk] at hS; simp only [CS_loc, CS_locV, CS_loc2, CS_locFn, CS_setN, CS_setI, CS_call, CS_iff, CS_whl, CS_for2, CS_for3, CS_forIn, CS_ret0, CS_ret1, CS_ret2, CS_brk] at hC; simp only [aftS_loc, aftS_locV, aftS_loc2, aftS_locFn, aftS_setN, aftS_setI, aftS_call, aftS_iff, aftS_whl, aftS_for2, aftS_for3, aftS_forIn, aftS_ret0, aftS_ret1, aftS_ret2, aftS_brk] at hCn hal
    obtain ⟨m0, m1, m2, m3⟩ := hS
    obtain ⟨hs, c1, c2, rfl⟩ := hC
    refine H.to (lc := lc) (l' := [vNil]) (seg' := ⟨6, n, 0, e⟩ :: seg) (pc' := f.pc + 1) ?_ ?_ (by simp) (fun q hq h2 => absurd (hop q hq h2) (by omega)) (.set (.bind (by rw [m2]; exact hs) hN c2 (by simp at hal; omega) hB (by rw [m2]; exact hCn) hp hbk hK)) (nr_cons (by simp) nr)
    · rw [hI0]; unfold istmt
      simp only [m1, m3, if_true, ne_eq, not_true_eq_false, if_false]
      rw [mkI_do H.hic, mkI_push H.hic, H.vv, ho]
      rfl
    · have := go_push (y := y) (fs := fs) (vars := a.vars) H.hac H.S.da H.hk c1 (.inl ⟨rfl, rfl⟩) (by omega)
      rw [ho] at this; exact this
  · simp only [IsS_loc, IsS_locV, IsS_loc2, IsS_locFn, IsS_setN, IsS_setI, IsS_call, IsS_iff, IsS_whl, IsS_for2, IsS_for3, IsS_forIn, IsS_ret0, IsS_ret1, IsS_ret2, IsS_brk] at hS; simp only [CS_loc, CS_locV, CS_loc2, CS_locFn, CS_setN, CS_setI, CS_call, CS_iff, CS_whl, CS_for2, CS_for3, CS_forIn, CS_ret0, CS_ret1, CS_ret2, CS_brk] at hC; simp only [aftS_loc, aftS_locV, aftS_loc2, aftS_locFn, aftS_setN, aftS_setI, aftS_call, aftS_iff, aftS_whl, aftS_for2, aftS_for3, aftS_forIn, aftS_ret0, aftS_ret1, aftS_ret2, aftS_brk] at hCn hal
    obtain ⟨m0, m1, m2, m3⟩ := hS
    obtain ⟨hs, hd, q, c1, c2, rfl⟩ := hC
    have hA0 : (nd G n).A ≠ 0 := by exact m3.ne
    refine H.same (lc := lc) (m := 0) (seg' := ⟨2, (nd G n).A, 0, e⟩ :: ⟨6, n, 0, e⟩ :: seg) ?_ hm.symm (.set (.evl m3 hB c1 (by omega) hop (.set (.bind (by rw [m2]; exact hs) hN c2 (by simp at hal; omega) hB (by rw [m2]; exact hCn) hp hbk hK)))) (nr_cons (by simp) (nr_cons (by simp) nr))
    rw [hI0]; unfold istmt
    simp only [m1, if_true, ne_eq, hA0, not_false_eq_true]
    rw [mkI_do H.hic, mkI_do H.hic]; rfl
  · simp only [IsS_loc, IsS_locV, IsS_loc2, IsS_locFn, IsS_setN, IsS_setI, IsS_call, IsS_iff, IsS_whl, IsS_for2, IsS_for3, IsS_forIn, IsS_ret0, IsS_ret1, IsS_ret2, IsS_brk] at hS; simp only [CS_loc, CS_locV, CS_loc2, CS_locFn, CS_setN, CS_setI, CS_call, CS_iff, CS_whl, CS_for2, CS_for3, CS_forIn, CS_ret0, CS_ret1, CS_ret2, CS_brk] at hC; simp only [aftS_loc, aftS_locV, aftS_loc2, aftS_locFn, aftS_setN, aftS_setI, aftS_call, aftS_iff, aftS_whl, aftS_for2, aftS_for3, aftS_forIn, aftS_ret0, aftS_ret1, aftS_ret2, aftS_brk] at hCn hal
    obtain ⟨m0, m1, m2, m3, m4, m5, m6⟩ := hS
    obtain ⟨hs, ht, hd, q, r, c1, c2, c3, c4, c5, c6, rfl⟩ := hC
    refine H.same (lc := lc) (m := 0) (seg' := ⟨2, (nd G (nd G n).B).A, 0, e⟩ :: ((iargs G 3 (nd G (nd G n).B).B).map (fun q => (⟨2, q, 0, e⟩ : Tk)) ++ ⟨22, (nd G n).B, (iargs G 3 (nd G (nd G n).B).B).length, e⟩ :: (⟨7, n, 0, e⟩ :: seg))) ?_ hm.symm
      (call_K m5 m6 hB c1 c2 c3 c4 (by omega) hop (.set (.bind2 m2 hs ht hN c5 c6 (by simp at hal; omega) hB hCn hp hbk hK))) (nr_call (nr_cons (by simp) nr))
    rw [hI0]; unfold istmt
    simp only [m1, Nat.reduceEqDiff, if_false, if_true]
    rw [mkI_do H.hic, mkI_call H.hic]; simp
  · simp only [CS_loc, CS_locV, CS_loc2, CS_locFn, CS_setN, CS_setI, CS_call, CS_iff, CS_whl, CS_for2, CS_for3, CS_forIn, CS_ret0, CS_ret1, CS_ret2, CS_brk] at hC; simp only [aftS_loc, aftS_locV, aftS_loc2, aftS_locFn, aftS_setN, aftS_setI, aftS_call, aftS_iff, aftS_whl, aftS_for2, aftS_for3, aftS_forIn, aftS_ret0, aftS_ret1, aftS_ret2, aftS_brk] at hCn hal
    obtain ⟨hs, c1, c2, c3, rfl⟩ := hC
    exact H.locFn hS hN hB hs c1 c2 c3 (by simpa using hal) hCn hp hbk hK hm
  · simp only [IsS_loc, IsS_locV, IsS_loc2, IsS_locFn, IsS_setN, IsS_setI, IsS_call, IsS_iff, IsS_whl, IsS_for2, IsS_for3, IsS_forIn, IsS_ret0, IsS_ret1, IsS_ret2, IsS_brk] at hS; simp only [CS_loc, CS_locV, CS_loc2, CS_locFn, CS_setN, CS_setI, CS_call, CS_iff, CS_whl, CS_for2, CS_for3, CS_forIn, CS_ret0, CS_ret1, CS_ret2, CS_brk] at hC; simp only [aftS_loc, aftS_locV, aftS_loc2, aftS_locFn, aftS_setN, aftS_setI, aftS_call, aftS_iff, aftS_whl, aftS_for2, aftS_for3, aftS_forIn, aftS_ret0, aftS_ret1, aftS_ret2, aftS_brk] at hCn hal
    obtain ⟨m0, m1, m2, m3, m4, m5⟩ := hS
    obtain ⟨hd, q, c1, c2, rfl⟩ := hC
    have hKn := next_K (e := e) hN hB hCn hp hl hbk hK
    refine H.same (lc := lc) (m := 0) (seg' := ⟨2, (nd G n).B, 0, e⟩ :: ⟨9, (nd G n).A, 0, e⟩ :: ⟨1, (nd G n).Nx, 0, e⟩ :: seg) ?_ hm.symm (.set (.evl m5 hB c1 (by omega) hop (.set (.storeN (by rw [m4]; exact c2) hB hl hKn)))) (nr_cons (by simp) (nr_cons (by simp) (nr_cons (by simp) nr)))
    rw [hI0, istmt_mk H.hic (by omega) (by omega) (by omega) (by omega)]
    simp [m1, m3]
  · simp only [IsS_loc, IsS_locV, IsS_loc2, IsS_locFn, IsS_setN, IsS_setI, IsS_call, IsS_iff, IsS_whl, IsS_for2, IsS_for3, IsS_forIn, IsS_ret0, IsS_ret1, IsS_ret2, IsS_brk] at hS; simp only [CS_loc, CS_locV, CS_loc2, CS_locFn, CS_setN, CS_setI, CS_call, CS_iff, CS_whl, CS_for2, CS_for3, CS_forIn, CS_ret0, CS_ret1, CS_ret2, CS_brk] at hC; simp only [aftS_loc, aftS_locV, aftS_loc2, aftS_locFn, aftS_setN, aftS_setI, aftS_call, aftS_iff, aftS_whl, aftS_for2, aftS_for3, aftS_forIn, aftS_ret0, aftS_ret1, aftS_ret2, aftS_brk] at hCn hal
    obtain ⟨m0, m1, m2, m3, m4, m5, m6⟩ := hS
    obtain ⟨d1, d2, d3, q, r, w, c1, c2, c3, c4, rfl⟩ := hC
    have hKn := next_K (e := e) hN hB hCn hp hl hbk hK
    refine H.same (lc := lc) (m := 0) (seg' := ⟨2, (nd G (nd G n).A).A, 0, e⟩ :: ⟨2, (nd G (nd G n).A).B, 0, e⟩ :: ⟨2, (nd G n).B, 0, e⟩ :: ⟨10, 0, 0, e⟩ :: ⟨1, (nd G n).Nx, 0, e⟩ :: seg) ?_ hm.symm
      (.set (.evl m4 hB c1 (by omega) hop (.set (.evl m5 hB c2 (by omega) (hop.le (by omega)) (.set (.evl m6 hB c3 (by omega) (hop.le (by omega)) (.set (.storeI c4 hKn)))))))) (nr_cons (by simp) (nr_cons (by simp) (nr_cons (by simp) (nr_cons (by simp) (nr_cons (by simp) nr)))))
    rw [hI0, istmt_mk H.hic (by omega) (by omega) (by omega) (by omega)]
    simp [m1, m3]
  · simp only [IsS_loc, IsS_locV, IsS_loc2, IsS_locFn, IsS_setN, IsS_setI, IsS_call, IsS_iff, IsS_whl, IsS_for2, IsS_for3, IsS_forIn, IsS_ret0, IsS_ret1, IsS_ret2, IsS_brk] at hS; simp only [CS_loc, CS_locV, CS_loc2, CS_locFn, CS_setN, CS_setI, CS_call, CS_iff, CS_whl, CS_for2, CS_for3, CS_forIn, CS_ret0, CS_ret1, CS_ret2, CS_brk] at hC; simp only [aftS_loc, aftS_locV, aftS_loc2, aftS_locFn, aftS_setN, aftS_setI, aftS_call, aftS_iff, aftS_whl, aftS_for2, aftS_for3, aftS_forIn, aftS_ret0, aftS_ret1, aftS_ret2, aftS_brk] at hCn hal
    obtain ⟨m0, m1, m2, m3, m4, m5⟩ := hS
    obtain ⟨hd, q, r, c1, c2, c3, c4, c5, c6, rfl⟩ := hC
    have hKn := next_K (e := e) hN hB hCn hp hl hbk hK
    refine H.same (lc := lc) (m := 0) (seg' := ⟨2, (nd G n).A, 0, e⟩ :: ⟨5, 0, 0, 0⟩ :: ⟨1, (nd G n).Nx, 0, e⟩ :: seg) ?_ hm.symm
      (.set (.evl (ex := .call g zs) (by simp only [IsE_lit, IsE_num, IsE_str, IsE_name, IsE_index, IsE_call, IsE_func, IsE_table, IsE_bin, IsE_un, IsE_land, IsE_lor]; exact ⟨m2, m3, m4, m5⟩) hB (by simp only [CE_lit, CE_num, CE_str, CE_name, CE_index, CE_call, CE_func, CE_table, CE_bin, CE_un, CE_land, CE_lor]; exact ⟨q, r, c1, c2, c3, c4, c5, rfl⟩) (by simp only [dE_lit, dE_num, dE_str, dE_name, dE_index, dE_call, dE_func, dE_table, dE_bin, dE_un, dE_land, dE_lor]; omega) hop (.set (.pop c6 hKn)))) (nr_cons (by simp) (nr_cons (by simp) (nr_cons (by simp) nr)))
    rw [hI0, istmt_mk H.hic (by omega) (by omega) (by omega) (by omega)]
    simp [m1]
  · simp only [IsS_loc, IsS_locV, IsS_loc2, IsS_locFn, IsS_setN, IsS_setI, IsS_call, IsS_iff, IsS_whl, IsS_for2, IsS_for3, IsS_forIn, IsS_ret0, IsS_ret1, IsS_ret2, IsS_brk] at hS; simp only [CS_loc, CS_locV, CS_loc2, CS_locFn, CS_setN, CS_setI, CS_call, CS_iff, CS_whl, CS_for2, CS_for3, CS_forIn, CS_ret0, CS_ret1, CS_ret2, CS_brk] at hC; simp only [aftS_loc, aftS_locV, aftS_loc2, aftS_locFn, aftS_setN, aftS_setI, aftS_call, aftS_iff, aftS_whl, aftS_for2, aftS_for3, aftS_forIn, aftS_ret0, aftS_ret1, aftS_ret2, aftS_brk] at hCn hal
    obtain ⟨m0, m1, m2, m3, m4⟩ := hS
    obtain ⟨hd, q, r, c1, c2, c3, c4, c5, c6, c7⟩ := hC
    have hKn := next_K (e := e) hN hB hCn hp hl hbk hK
    refine H.same (lc := lc) (m := 0) (seg' := ⟨2, (nd G n).A, 0, e⟩ :: ⟨11, n, 0, e⟩ :: ⟨1, (nd G n).Nx, 0, e⟩ :: seg) ?_ hm.symm
      (.set (.evl m2 hB c1 (by omega) hop (.set (.iff m3 m4 hB hl c2 c3 c4 c5 c6 c7 (brk_skip (hbk.pre hp) (by simp)) hKn)))) (nr_cons (by simp) (nr_cons (by simp) (nr_cons (by simp) nr)))
    rw [hI0, istmt_mk H.hic (by omega) (by omega) (by omega) (by omega)]
    simp [m1]
  · simp only [IsS_loc, IsS_locV, IsS_loc2, IsS_locFn, IsS_setN, IsS_setI, IsS_call, IsS_iff, IsS_whl, IsS_for2, IsS_for3, IsS_forIn, IsS_ret0, IsS_ret1, IsS_ret2, IsS_brk] at hS; simp only [CS_loc, CS_locV, CS_loc2, CS_locFn, CS_setN, CS_setI, CS_call, CS_iff, CS_whl, CS_for2, CS_for3, CS_forIn, CS_ret0, CS_ret1, CS_ret2, CS_brk] at hC; simp only [aftS_loc, aftS_locV, aftS_loc2, aftS_locFn, aftS_setN, aftS_setI, aftS_call, aftS_iff, aftS_whl, aftS_for2, aftS_for3, aftS_forIn, aftS_ret0, aftS_ret1, aftS_ret2, aftS_brk] at hCn hal
    obtain ⟨m0, m1, m2, m3⟩ := hS
    obtain ⟨hd, q, r, c1, c2, c3, c4, c5, c6, rfl⟩ := hC
    have hKn := next_K (e := e) hN hB hCn hp hl hbk hK
    refine H.same (lc := lc) (m := 0) (seg' := ⟨12, n, 0, e⟩ :: ⟨4, 0, vals.length + hid.length, 0⟩ :: ⟨1, (nd G n).Nx, 0, e⟩ :: seg) ?_ hm.symm (.set (.whl ⟨m2, m3, hd, c1, c2, c3, c4, c5, c6⟩ hB hl hKn)) (nr_cons (by simp) (nr_cons (by simp) (nr_cons (by simp) nr)))
    rw [hI0, istmt_mk H.hic (by omega) (by omega) (by omega) (by omega)]
    simp only [m1, Nat.reduceEqDiff, if_false, if_true, hvl]
    rfl
  · simp only [IsS_loc, IsS_locV, IsS_loc2, IsS_locFn, IsS_setN, IsS_setI, IsS_call, IsS_iff, IsS_whl, IsS_for2, IsS_for3, IsS_forIn, IsS_ret0, IsS_ret1, IsS_ret2, IsS_brk] at hS; simp only [CS_loc, CS_locV, CS_loc2, CS_locFn, CS_setN, CS_setI, CS_call, CS_iff, CS_whl, CS_for2, CS_for3, CS_forIn, CS_ret0, CS_ret1, CS_ret2, CS_brk] at hC; simp only [aftS_loc, aftS_locV, aftS_loc2, aftS_locFn, aftS_setN, aftS_setI, aftS_call, aftS_iff, aftS_whl, aftS_for2, aftS_for3, aftS_forIn, aftS_ret0, aftS_ret1, aftS_ret2, aftS_brk] at hCn hal
    obtain ⟨m0, m1, m2, m3, m4, m5, m6, m7, m8⟩ := hS
    obtain ⟨hs, d1, d2, hns, q, r, c1, c2, c3, c4, ⟨k, c5, c6⟩, c7⟩ := hC
    obtain ⟨e1, e2, e3, z, e4, e5, e6, e7, e8, e9, e10, e11, e12, e13, e14, e15, e16, rfl⟩ := c7
    have hKn := next_K (e := e) hN hB hCn hp hl hbk hK
    have hh := hKn.hidden
    have hB1 : Bd i.envs ρ e (Dy f.slots od (L ++ [[]])) := by rw [Dy_hid]; exact hB
    have F : FoD G Ps Fs j n bd L lc (r + 2) z := ⟨by rw [m2]; exact hs, m8, hns, e2, e3, e4, e5, e6, e7, by rw [m2]; exact e8, e9, e10, e11, e12, e13, e14, e15, e16⟩
    have k3 : KK G Ps Fs i ρ f od vals j false (r + 1) (⟨2, 0, 1, e⟩ :: ⟨15, n, 0, e⟩ :: ⟨4, 0, vals.length + hid.length, 0⟩ :: ⟨1, (nd G n).Nx, 0, e⟩ :: seg) 0 (L ++ [[]] ++ [[]]) ((L ++ [[]]).length :: L.length :: hid) lc fl := by
      refine .set (.evl1 c5 c6 (by omega) hop (.stash (by simpa using e1) ?_ (by simp; omega) ?_))
      · exact ((((hh.pre (List.prefix_append _ [[]])).cons (by simp)).pre (List.prefix_append _ [[]])).cons (by simp))
      · have := K.set (K.finit F hB hKn)
        simpa using this
    have hI : (⟨2, (nd G n).A, 0, e⟩ :: ⟨2, (nd G (nd G n).A).Nx, 0, e⟩ :: ⟨2, 0, 1, e⟩ :: ⟨15, n, 0, e⟩ :: ⟨4, 0, vals.length + hid.length, 0⟩ :: ⟨1, (nd G n).Nx, 0, e⟩ :: seg : List Tk) = (⟨2, (nd G n).A, 0, e⟩ :: ⟨2, (nd G (nd G n).A).Nx, 0, e⟩ :: ⟨2, 0, 1, e⟩ :: ⟨15, n, 0, e⟩ :: ⟨4, 0, vals.length + hid.length, 0⟩ :: ⟨1, (nd G n).Nx, 0, e⟩ :: seg : List Tk) := rfl
    refine H.same (lc := lc) (m := 0) (seg' := ⟨2, (nd G n).A, 0, e⟩ :: ⟨2, (nd G (nd G n).A).Nx, 0, e⟩ :: ⟨2, 0, 1, e⟩ :: ⟨15, n, 0, e⟩ :: ⟨4, 0, vals.length + hid.length, 0⟩ :: ⟨1, (nd G n).Nx, 0, e⟩ :: seg) ?_ hm.symm
      (.set (.evl m4 hB c1 (by omega) hop (.stash c2 hh (by omega) (.set (.evl m6 hB1 c3 (by omega) hop (.stash (by simpa using c4) ((hh.pre (List.prefix_append _ _)).cons (by simp)) (by simp; omega) k3)))))) (nr_cons (by simp) (nr_cons (by simp) (nr_cons (by simp) (nr_cons (by simp) (nr_cons (by simp) (nr_cons (by simp) nr))))))
    rw [hI0, istmt_mk H.hic (by omega) (by omega) (by omega) (by omega)]
    simp only [m1, Nat.reduceEqDiff, if_false, if_true, hvl, m7]
    rfl
  · simp only [IsS_loc, IsS_locV, IsS_loc2, IsS_locFn, IsS_setN, IsS_setI, IsS_call, IsS_iff, IsS_whl, IsS_for2, IsS_for3, IsS_forIn, IsS_ret0, IsS_ret1, IsS_ret2, IsS_brk] at hS; simp only [CS_loc, CS_locV, CS_loc2, CS_locFn, CS_setN, CS_setI, CS_call, CS_iff, CS_whl, CS_for2, CS_for3, CS_forIn, CS_ret0, CS_ret1, CS_ret2, CS_brk] at hC; simp only [aftS_loc, aftS_locV, aftS_loc2, aftS_locFn, aftS_setN, aftS_setI, aftS_call, aftS_iff, aftS_whl, aftS_for2, aftS_for3, aftS_forIn, aftS_ret0, aftS_ret1, aftS_ret2, aftS_brk] at hCn hal
    obtain ⟨m0, m1, m2, m3, m4, m5, m6, m7, m8, m9, m10⟩ := hS
    obtain ⟨hs, d1, d2, d3, hns, q, r, v, c1, c2, c3, c4, c5, c7⟩ := hC
    obtain ⟨e1, e2, e3, z, e4, e5, e6, e7, e8, e9, e10, e11, e12, e13, e14, e15, e16, rfl⟩ := c7
    have hKn := next_K (e := e) hN hB hCn hp hl hbk hK
    have hh := hKn.hidden
    have hB1 : Bd i.envs ρ e (Dy f.slots od (L ++ [[]])) := by rw [Dy_hid]; exact hB
    have hB2 : Bd i.envs ρ e (Dy f.slots od (L ++ [[]] ++ [[]])) := by rw [Dy_hid, Dy_hid]; exact hB
    have F : FoD G Ps Fs j n bd L lc v z := ⟨by rw [m2]; exact hs, m10, hns, e2, e3, e4, e5, e6, e7, by rw [m2]; exact e8, e9, e10, e11, e12, e13, e14, e15, e16⟩
    have k3 : KK G Ps Fs i ρ f od vals j false (r + 1) (⟨2, (nd G (nd G (nd G n).A).Nx).Nx, 0, e⟩ :: ⟨15, n, 0, e⟩ :: ⟨4, 0, vals.length + hid.length, 0⟩ :: ⟨1, (nd G n).Nx, 0, e⟩ :: seg) 0 (L ++ [[]] ++ [[]]) ((L ++ [[]]).length :: L.length :: hid) lc fl := by
      refine .set (.evl m8 hB2 (by simpa using c5) (by omega) hop (.stash (by simpa using e1) ?_ (by simp; omega) ?_))
      · exact ((((hh.pre (List.prefix_append _ [[]])).cons (by simp)).pre (List.prefix_append _ [[]])).cons (by simp))
      · have := K.set (K.finit F hB hKn)
        simpa using this
    refine H.same (lc := lc) (m := 0) (seg' := ⟨2, (nd G n).A, 0, e⟩ :: ⟨2, (nd G (nd G n).A).Nx, 0, e⟩ :: ⟨2, (nd G (nd G (nd G n).A).Nx).Nx, 0, e⟩ :: ⟨15, n, 0, e⟩ :: ⟨4, 0, vals.length + hid.length, 0⟩ :: ⟨1, (nd G n).Nx, 0, e⟩ :: seg) ?_ hm.symm
      (.set (.evl m4 hB c1 (by omega) hop (.stash c2 hh (by omega) (.set (.evl m6 hB1 c3 (by omega) hop (.stash (by simpa using c4) ((hh.pre (List.prefix_append _ _)).cons (by simp)) (by simp; omega) k3)))))) (nr_cons (by simp) (nr_cons (by simp) (nr_cons (by simp) (nr_cons (by simp) (nr_cons (by simp) (nr_cons (by simp) nr))))))
    rw [hI0, istmt_mk H.hic (by omega) (by omega) (by omega) (by omega)]
    simp only [m1, Nat.reduceEqDiff, if_false, if_true, hvl, ne_eq, m7, not_false_eq_true]
    rfl
  · simp only [IsS_loc, IsS_locV, IsS_loc2, IsS_locFn, IsS_setN, IsS_setI, IsS_call, IsS_iff, IsS_whl, IsS_for2, IsS_for3, IsS_forIn, IsS_ret0, IsS_ret1, IsS_ret2, IsS_brk] at hS; simp only [CS_loc, CS_locV, CS_loc2, CS_locFn, CS_setN, CS_setI, CS_call, CS_iff, CS_whl, CS_for2, CS_for3, CS_forIn, CS_ret0, CS_ret1, CS_ret2, CS_brk] at hC; simp only [aftS_loc, aftS_locV, aftS_loc2, aftS_locFn, aftS_setN, aftS_setI, aftS_call, aftS_iff, aftS_whl, aftS_for2, aftS_for3, aftS_forIn, aftS_ret0, aftS_ret1, aftS_ret2, aftS_brk] at hCn hal
    obtain ⟨m0, m1, m2, m3, m4⟩ := hS
    obtain ⟨hs, ht, hd, hns, q, r, c1, c2, c3, c4, c5, c6, c7, c8, c9, c10, c11, c12, rfl⟩ := hC
    have hKn := next_K (e := e) hN hB hCn hp hl hbk hK
    have hh := hKn.hidden
    refine H.same (lc := lc) (m := 0) (seg' := ⟨2, (nd G n).B, 0, e⟩ :: ⟨18, n, 0, e⟩ :: ⟨4, 0, vals.length + hid.length, 0⟩ :: ⟨1, (nd G n).Nx, 0, e⟩ :: seg) ?_ hm.symm
      (.set (.evl m3 hB c1 (by omega) hop (.stash c2 hh (by omega) (.set (.inin ⟨m2, hs, ht, m4, hns, c3, c4, c5, c6, c7, c8, c9, c10, c11, c12⟩ hB hKn))))) (nr_cons (by simp) (nr_cons (by simp) (nr_cons (by simp) (nr_cons (by simp) nr))))
    rw [hI0, istmt_mk H.hic (by omega) (by omega) (by omega) (by omega)]
    simp only [m1, Nat.reduceEqDiff, if_false, if_true, hvl]
    rfl
  · simp only [IsS_loc, IsS_locV, IsS_loc2, IsS_locFn, IsS_setN, IsS_setI, IsS_call, IsS_iff, IsS_whl, IsS_for2, IsS_for3, IsS_forIn, IsS_ret0, IsS_ret1, IsS_ret2, IsS_brk] at hS; simp only [CS_loc, CS_locV, CS_loc2, CS_locFn, CS_setN, CS_setI, CS_call, CS_iff, CS_whl, CS_for2, CS_for3, CS_forIn, CS_ret0, CS_ret1, CS_ret2, CS_brk] at hC; simp only [aftS_loc, aftS_locV, aftS_loc2, aftS_locFn, aftS_setN, aftS_setI, aftS_call, aftS_iff, aftS_whl, aftS_for2, aftS_for3, aftS_forIn, aftS_ret0, aftS_ret1, aftS_ret2, aftS_brk] at hCn hal
    obtain ⟨m0, m1, m2, m3⟩ := hS
    obtain ⟨c1, c2, c3, rfl⟩ := hC
    have hKn := next_K (e := e) hN hB hCn hp hl hbk hK
    refine H.same (lc := lc) (m := 0) (seg' := ⟨2, 0, 0, e⟩ :: ⟨2, 0, 0, e⟩ :: ⟨21, 0, 0, 0⟩ :: ⟨1, (nd G n).Nx, 0, e⟩ :: seg) ?_ hm.symm (.set (.evl0 c1 (by omega) hop (.set (.evl0 c2 (by omega) (hop.le (by omega)) (.set (.ret c3 hKn.hidden hop hKn)))))) (nr_cons (by simp) (nr_cons (by simp) (nr_cons (by simp) (nr_cons (by simp) nr))))
    rw [hI0, istmt_mk H.hic (by omega) (by omega) (by omega) (by omega)]
    simp [m1, m2, m3]
  · simp only [IsS_loc, IsS_locV, IsS_loc2, IsS_locFn, IsS_setN, IsS_setI, IsS_call, IsS_iff, IsS_whl, IsS_for2, IsS_for3, IsS_forIn, IsS_ret0, IsS_ret1, IsS_ret2, IsS_brk] at hS; simp only [CS_loc, CS_locV, CS_loc2, CS_locFn, CS_setN, CS_setI, CS_call, CS_iff, CS_whl, CS_for2, CS_for3, CS_forIn, CS_ret0, CS_ret1, CS_ret2, CS_brk] at hC; simp only [aftS_loc, aftS_locV, aftS_loc2, aftS_locFn, aftS_setN, aftS_setI, aftS_call, aftS_iff, aftS_whl, aftS_for2, aftS_for3, aftS_forIn, aftS_ret0, aftS_ret1, aftS_ret2, aftS_brk] at hCn hal
    obtain ⟨m0, m1, m2, m3⟩ := hS
    obtain ⟨hd, q, c1, c2, c3, rfl⟩ := hC
    have hKn := next_K (e := e) hN hB hCn hp hl hbk hK
    refine H.same (lc := lc) (m := 0) (seg' := ⟨2, (nd G n).A, 0, e⟩ :: ⟨2, 0, 0, e⟩ :: ⟨21, 0, 0, 0⟩ :: ⟨1, (nd G n).Nx, 0, e⟩ :: seg) ?_ hm.symm (.set (.evl m2 hB c1 (by omega) hop (.set (.evl0 c2 (by omega) (hop.le (by omega)) (.set (.ret c3 hKn.hidden hop hKn)))))) (nr_cons (by simp) (nr_cons (by simp) (nr_cons (by simp) (nr_cons (by simp) nr))))
    rw [hI0, istmt_mk H.hic (by omega) (by omega) (by omega) (by omega)]
    simp [m1, m3]
  · simp only [IsS_loc, IsS_locV, IsS_loc2, IsS_locFn, IsS_setN, IsS_setI, IsS_call, IsS_iff, IsS_whl, IsS_for2, IsS_for3, IsS_forIn, IsS_ret0, IsS_ret1, IsS_ret2, IsS_brk] at hS; simp only [CS_loc, CS_locV, CS_loc2, CS_locFn, CS_setN, CS_setI, CS_call, CS_iff, CS_whl, CS_for2, CS_for3, CS_forIn, CS_ret0, CS_ret1, CS_ret2, CS_brk] at hC; simp only [aftS_loc, aftS_locV, aftS_loc2, aftS_locFn, aftS_setN, aftS_setI, aftS_call, aftS_iff, aftS_whl, aftS_for2, aftS_for3, aftS_forIn, aftS_ret0, aftS_ret1, aftS_ret2, aftS_brk] at hCn hal
    obtain ⟨m0, m1, m2, m3⟩ := hS
    obtain ⟨d1, d2, q, r, c1, c2, c3, rfl⟩ := hC
    have hKn := next_K (e := e) hN hB hCn hp hl hbk hK
    refine H.same (lc := lc) (m := 0) (seg' := ⟨2, (nd G n).A, 0, e⟩ :: ⟨2, (nd G n).B, 0, e⟩ :: ⟨21, 0, 0, 0⟩ :: ⟨1, (nd G n).Nx, 0, e⟩ :: seg) ?_ hm.symm (.set (.evl m2 hB c1 (by omega) hop (.set (.evl m3 hB c2 (by omega) (hop.le (by omega)) (.set (.ret c3 hKn.hidden hop hKn)))))) (nr_cons (by simp) (nr_cons (by simp) (nr_cons (by simp) (nr_cons (by simp) nr))))
    rw [hI0, istmt_mk H.hic (by omega) (by omega) (by omega) (by omega)]
    simp [m1]
  · exact H.brk hS hC hp hbk hm
end

end Go.Proofs.Qxb6500568aGreatDoor
