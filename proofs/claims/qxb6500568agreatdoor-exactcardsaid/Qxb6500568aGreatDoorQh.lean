import Derived.Test.Qxb6500568aGreatDoorQg
/- The machine: call, all ways. -/
namespace Go.Proofs.Qxb6500568aGreatDoor
open Ieee
set_option linter.unusedVariables false
set_option linter.unusedSimpArgs false
set_option linter.unusedSectionVars false

section
variable {C : VC} {w : World} {ow : Nat → Nat} {a : AS} {y : ATh} {gs : List AFr} {g : AFr} {vars : List PV} {fg fc p z : Nat} {ids : List Nat}
theorem wf_6b {v : PV} (h : wfV v = true) (ht : v.T = 6) : 1 ≤ v.N ∧ v.N ≤ 11 := by
  unfold wfV at h
  rw [if_neg (by omega)] at h
  split at h
  · simp [ht] at h; omega
  · cases h
theorem cl_at {n : Nat} (hAT : AT (Psf C.F) (mkA a y gs g vars)) (h : n < a.clos.length) : ∃ pn idn, a.clos[n]? = some (pn, idn) ∧ pn < C.F.length := by
  have h1 : a.clos[n]? = some (a.clos[n].1, a.clos[n].2) := List.getElem?_eq_getElem h
  have h2 := (hAT.cl n _ _ h1).1
  unfold Psf at h2
  rw [List.length_map] at h2
  exact ⟨_, _, h1, h2⟩
theorem thr_st (hAT : AT (Psf C.F) (mkA a y gs g vars)) (hd : (mkA a y gs g vars).done = false) (hc : a.cur < a.ths.length) : y.st = 4 := by
  have h := (hAT.tr hd).st
  unfold thA at h
  rw [List.getD_eq_getElem?_getD, show (mkA a y gs g vars).cur = a.cur from rfl, mk_at hc] at h
  exact h
theorem stx_cur {b : AS} {g' : AFr} (hc : b.cur < b.ths.length) : ((mkA b y gs g' vars).ths.getD b.cur ATh.zero).st = y.st := by
  rw [List.getD_eq_getElem?_getD, mk_at hc]
  rfl
theorem callA (E : PE C fg fc w ow a y gs g vars p ids 26 z) (hAT : AT (Psf C.F) (mkA a y gs g vars)) (hN1 : ∀ c, c ≠ a.cur → (a.ths.getD c ATh.zero).st = 1 → (a.ths.getD c ATh.zero).frs = []) : RetP Tryz.prog 245 [ptr C.E.mb, i64c a.cur, tptr C a.cur, fpt fg gs.length, i64c z] w (CaR C w ow (kH a) (acall (Psf C.F) z (mkA a y gs g vars))) (AE C (kH a) w ow (acall (Psf C.F) z (mkA a y gs g vars))) := by
  obtain ⟨zs, fn, l, ho, rfl⟩ := ops_call (g := g) (z := z) E.nd
  rcases Nat.eq_zero_or_pos a.fuel with hf | hf
  · exact call_0 E hf
  have hvf := E.vo (v := fn) (by rw [ho]; simp)
  have hvz : ∀ k, VV a.clos.length a.ths.length a.tabs.length (zs.getD k vNil) := fun k => by
    rw [List.getD_eq_getElem?_getD]
    cases hk : zs[k]? with
    | none => exact .nil _ _ _
    | some v => exact E.vo (by rw [ho]; exact List.mem_append.2 (.inl (List.mem_reverse.2 (List.mem_of_getElem? hk))))
  by_cases h5 : fn.T = 5
  · obtain ⟨pn, idn, hkn, hpn⟩ := cl_at hAT (hvf.f h5)
    by_cases hd : 8 ≤ gs.length + 1
    · exact call_deep E hf ho h5 hd
    · exact call_fn E hf ho h5 (by omega) hkn hpn
  by_cases h6 : fn.T = 6
  · have hN := wf_6b hvf.wf h6
    have : fn.N = 1 ∨ fn.N = 2 ∨ fn.N = 3 ∨ fn.N = 4 ∨ fn.N = 5 ∨ fn.N = 6 ∨ fn.N = 7 ∨ fn.N = 8 ∨ fn.N = 9 ∨ fn.N = 10 ∨ fn.N = 11 := by omega
    rcases this with hN | hN | hN | hN | hN | hN | hN | hN | hN | hN | hN
    · exact nat_1 E hf ho h6 hN
    · exact nat_2 E hf ho h6 hN
    · exact nat_3 E hf ho h6 hN
    · exact nat_4 E hf ho h6 hN
    · exact nat_5 E hf ho h6 hN
    · by_cases h9 : (zs.getD 0 vNil).T = 5
      · obtain ⟨pn, idn, hkn, hpn⟩ := cl_at hAT ((hvz 0).f h9)
        by_cases hd : 8 ≤ gs.length + 1
        · exact nat_6b E hf ho h6 hN h9 hd
        · exact nat_6c E hf ho h6 hN h9 (by omega) hkn hpn
      · exact nat_6a E hf ho h6 hN h9
    · exact nat_7 E hf ho h6 hN
    · exact nat_8 E hf ho h6 hN
    · by_cases h7 : (zs.getD 0 vNil).T = 7
      · have hst := thr_st hAT E.sn.d E.hc
        generalize hsx : ((mkA { a with fuel := a.fuel - 1 } y gs { g with pc := g.pc + 1 } vars).ths.getD (zs.getD 0 vNil).N ATh.zero).st = sx
        by_cases hs : sx ≠ 1 ∧ sx ≠ 2
        · exact nat_9b E hf ho h6 hN h7 (by rw [hsx]; exact hs)
        · have hn9 : (zs.getD 0 vNil).N ≠ a.cur := fun q => by
            have h1 := stx_cur (b := { a with fuel := a.fuel - 1 }) (y := y) (gs := gs) (vars := vars) (g' := { g with pc := g.pc + 1 }) E.hc
            rw [q] at hsx
            have h2 : sx = y.st := hsx.symm.trans h1
            omega
          rcases (by omega : sx = 1 ∨ sx = 2) with q | q
          · exact nat_9c E hf ho h6 hN h7 hn9 (hN1 _ hn9 (by rw [← q, ← hsx]; exact (congrArg ATh.st (getD_ne (l := a.ths) (y := { y with frs := { g with pc := g.pc + 1 } :: gs }) hn9)).symm)) (by rw [hsx]; exact q)
          · exact nat_9d E hf ho h6 hN h7 hn9 (by rw [hsx]; exact q)
      · exact nat_9a E hf ho h6 hN h7
    · by_cases h0 : a.cur = 0
      · exact nat_10a E hf ho h6 hN h0
      · exact nat_10b E hf ho h6 hN h0
    · exact nat_11 E hf ho h6 hN
  · exact call_bad E hf ho ⟨h5, h6⟩
end
end Go.Proofs.Qxb6500568aGreatDoor
