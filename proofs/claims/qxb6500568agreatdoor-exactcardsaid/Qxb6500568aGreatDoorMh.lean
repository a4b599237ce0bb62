import Derived.Test.Qxb6500568aGreatDoorMg
namespace Go.Proofs.Qxb6500568aGreatDoor
open Ieee
set_option linter.unusedVariables false
set_option linter.unusedSimpArgs false
set_option linter.unusedSectionVars false

/-! A step of the interpreter keeps validity: the whole step. -/

section
variable {G : Arena} {root : Nat} {s : IS} {v : PV}

theorem IOK.modN (h : IOK s) {z : Nat} (hz : W64 z) (hn : isNaNW z = true → z = nanB) (k : Nat) (hT : (s.top k).T = 2) : IOK (s.setT { s.th with vals := s.th.vals.modify k fun v => { v with N := z } }) := by
  refine h.setT (fun w hw => ?_)
  obtain ⟨m, hm⟩ := List.mem_iff_getElem?.1 hw
  have hm' : (s.th.vals.modify k fun v => { v with N := z })[m]? = some w := hm
  rw [List.getElem?_modify] at hm'
  cases hq : s.th.vals[m]? with
  | none => rw [hq] at hm'; cases hm'
  | some u =>
    rw [hq] at hm'
    have hw' := Option.some.inj hm'
    have hu := h.th u (List.mem_of_getElem? hq)
    split at hw'
    · rename_i hk
      subst hk
      have hu2 : u.T = 2 := by have : s.top k = u := by unfold IS.top; exact getD_of hq
                               rw [this] at hT; exact hT
      have hwf := hu.wf
      unfold wfV at hwf
      rw [if_neg (by omega)] at hwf
      split at hwf
      · rename_i h2
        rw [← hw']
        refine ⟨?_, hz, (fun q => ?_), (fun q => ?_), (fun q => ?_), fun _ => hn⟩
        · unfold wfV; simp [hu2, h2.1]
        · have : u.T = 5 := q; omega
        · have : u.T = 7 := q; omega
        · have : u.T = 4 := q; omega
      · cases hwf
    · rw [← hw']; exact hu

/-- the three values of a numeric loop are numbers where a round ends. -/
def NumAt (s : IS) : Prop := ∀ t r, s.th.tasks = t :: r → t.k = 17 → (s.top 2).T = 2

theorem IOK.step1 (hA : AOK G) {t : Tk} {s0 : IS} (h0 : IOK s0) (h : IOK s) (h17 : t.k = 17 → (s.top 2).T = 2) : IOK (istep1 G root t s0 s) := by
  have hcons : ∀ (u : PV), ok s u → IOK (s.setT { s.th with vals := s.th.vals.set 0 u }) := fun u hu => h.setT (fun w hw => by
    rcases List.mem_or_eq_of_mem_set hw with hw | rfl
    · exact h.th w hw
    · exact hu)
  unfold istep1
  refine IOK.ite (fun _ => IOK.ite (fun _ => h.stmt) (fun _ => h)) (fun _ => ?_)
  refine IOK.ite (fun _ => h.eval hA) (fun _ => ?_)
  refine IOK.ite (fun _ => h0.ret (VV.nil _ _ _) (VV.nil _ _ _)) (fun _ => ?_)
  refine IOK.ite (fun _ => h.drop _) (fun _ => ?_)
  refine IOK.ite (fun _ => ((h.drop 1).new ((ok_drop _).2 (h.top 0))).doT _ _ _ _) (fun _ => ?_)
  refine IOK.ite (fun _ => (((h.drop 2).new ((ok_drop _).2 (h.top 1))).new ((ok_drop (s := s) 2).2 (h.top 0))).doT _ _ _ _) (fun _ => ?_)
  refine IOK.ite (fun _ => ((h.drop 1).setE _ ((ok_drop _).2 (h.top 0))).doT _ _ _ _) (fun _ => ?_)
  refine IOK.ite (fun _ => IOK.ite (fun _ => (h.drop 1).setE _ ((ok_drop _).2 (h.top 0))) (fun _ => (h.drop 1).iset (VV.str _ _ _ (hA _).2.1) ((ok_drop _).2 (h.top 0)))) (fun _ => ?_)
  refine IOK.ite (fun _ => (h.drop 3).iset ((ok_drop _).2 (h.top 1)) ((ok_drop _).2 (h.top 0))) (fun _ => ?_)
  refine IOK.ite (fun _ => (h.drop 1).doT _ _ _ _) (fun _ => ?_)
  refine IOK.ite (fun _ => (h.doT _ _ _ _).doT _ _ _ _) (fun _ => ?_)
  refine IOK.ite (fun _ => IOK.ite (fun _ => ((h.drop 1).doT _ _ _ _).doT _ _ _ _) (fun _ => h.drop 1)) (fun _ => ?_)
  refine IOK.ite (fun _ => IOK.ite (fun _ => h.burn) (fun _ => h.burn.doT _ _ _ _)) (fun _ => ?_)
  refine IOK.ite (fun _ => IOK.ite (fun _ => IOK.ite (fun _ => h.doT _ _ _ _) (fun _ => h.raise (by decide))) (fun _ => h.raise (by decide))) (fun _ => ?_)
  refine IOK.ite (fun _ => IOK.ite (fun _ => ((h.doT _ _ _ _).new ((ok_do _ _ _ _).2 (h.top 2))).doT _ _ _ _) (fun _ => h.drop 3)) (fun _ => ?_)
  refine IOK.ite (fun hk => ?_) (fun _ => ?_)
  · have hm : IOK (s.setT { s.th with vals := s.th.vals.modify 2 fun v => { v with N := fAri 1 v.N (s.top 0).N } }) := by
      have e : s.th.vals.modify 2 (fun v => { v with N := fAri 1 v.N (s.top 0).N }) = s.th.vals.modify 2 (fun v => { v with N := fAri 1 (s.top 2).N (s.top 0).N }) := by
        apply List.ext_getElem?
        intro m
        rw [List.getElem?_modify, List.getElem?_modify]
        cases hq : s.th.vals[m]? with
        | none => rfl
        | some u =>
          by_cases hm : 2 = m
          · subst hm
            have : s.top 2 = u := by unfold IS.top; exact getD_of hq
            simp [this]
          · simp [hm]
      rw [e]
      exact h.modN (fAri_lt _ _ _) (fun q => fAri_nan (h.top 2).w (h.top 0).w q) 2 (h17 hk)
    exact IOK.ite (fun _ => hm.burn) (fun _ => hm.burn.doT _ _ _ _)
  refine IOK.ite (fun _ => IOK.ite (fun _ => h.raise (by decide)) (fun _ => (h.push (VV.nil _ _ _)).doT _ _ _ _)) (fun _ => ?_)
  refine IOK.ite (fun _ => ?_) (fun _ => ?_)
  · have hkv : ok s ((tNext (s.tabs.getD (s.top 1).N []) (s.top 0)).getD (vNil, vNil)).1 ∧ ok s ((tNext (s.tabs.getD (s.top 1).N []) (s.top 0)).getD (vNil, vNil)).2 := by
      cases hn : tNext (s.tabs.getD (s.top 1).N []) (s.top 0) with
      | none => exact ⟨VV.nil _ _ _, VV.nil _ _ _⟩
      | some kv => exact tNext_ok (h.tabD _).2 hn
    generalize (tNext (s.tabs.getD (s.top 1).N []) (s.top 0)).getD (vNil, vNil) = kv at hkv
    obtain ⟨k, w⟩ := kv
    refine IOK.ite (fun _ => h.drop 2) (fun _ => ?_)
    have h1 := (hcons k hkv.1).doT 20 t.n 0 t.e
    exact ((h1.new ((ok_do _ _ _ _).2 ((ok_setT _).2 hkv.1))).new ((ok_do (s := s.setT _) _ _ _ _).2 ((ok_setT _).2 hkv.2))).doT _ _ _ _
  refine IOK.ite (fun _ => IOK.ite (fun _ => h.burn) (fun _ => h.burn.doT _ _ _ _)) (fun _ => ?_)
  refine IOK.ite (fun _ => (h.drop 2).ret ((ok_drop _).2 (h.top 1)) ((ok_drop _).2 (h.top 0))) (fun _ => ?_)
  refine IOK.ite (fun _ => h.apply) (fun _ => ?_)
  refine IOK.ite (fun _ => ?_) (fun _ => ?_)
  · have h1 : IOK (Go.Proofs.Qxb6500568aGreatDoor.iset (s.top 1) (vNum (fInt t.x)) (s.top 0) (idrop 1 s)) := (h.drop 1).iset (VV.num _ _ _ (fInt_lt _) (fun q => fInt_nan q)) ((ok_drop _).2 (h.top 0))
    exact IOK.ite (fun _ => h1) (fun _ => h1.items _ _ _)
  refine IOK.ite (fun _ => (h.drop 2).res (fun u hu => (ok_drop _).2 (binV_ok (h.top 1) (h.top 0) hu)) (fun m hm => binV_err hm)) (fun _ => ?_)
  refine IOK.ite (fun _ => (h.drop 1).res (fun u hu => (ok_drop _).2 (unV_ok (h.top 0) hu)) (fun m hm => unV_err hm)) (fun _ => ?_)
  refine IOK.ite (fun _ => IOK.ite (fun _ => (h.drop 1).doT _ _ _ _) (fun _ => h)) (fun _ => ?_)
  refine IOK.ite (fun _ => IOK.ite (fun _ => h) (fun _ => (h.drop 1).doT _ _ _ _)) (fun _ => ?_)
  refine IOK.ite (fun _ => IOK.ite (fun _ => (h.drop 2).raise (by decide)) (fun _ => (h.drop 2).push ((ok_drop _).2 (tGet_ok (h.tabD _).2)))) (fun _ => ?_)
  exact h
theorem IOK.step (hA : AOK G) (h : IOK s) (hN : NumAt s) : IOK (istep G root s) := by
  unfold istep
  split
  · exact h
  · rename_i t r ht
    have h1 : IOK (s.setT { s.th with tasks := r }) := h.setT h.th
    refine IOK.step1 hA h h1 (fun hk => ?_)
    have := hN t r ht hk
    by_cases hc : s.cur < s.ths.length
    · have e : (s.setT { s.th with tasks := r }).th = { s.th with tasks := r } := by unfold IS.setT IS.th; simp [List.getD_eq_getElem?_getD, hc]
      unfold IS.top at this ⊢
      rw [e]; exact this
    · have e : s.th = ITh.zero := by unfold IS.th; rw [List.getD_eq_getElem?_getD, List.getElem?_eq_none (by omega)]; rfl
      rw [e] at ht; cases ht

theorem IOK.valOK (h : IOK s) : ValOK s := by
  refine ⟨fun v hv => ?_, fun t ht q hq => ?_⟩
  · have H := h.th v hv
    refine ⟨H.f, H.co, fun q => ?_, H.tb, fun q => ?_⟩
    · have hw := H.wf
      unfold wfV at hw
      rw [if_neg (by omega)] at hw
      split at hw
      · simp [q] at hw; exact hw
      · cases hw
    · have hw := H.wf
      unfold wfV at hw
      rw [if_neg (by omega)] at hw
      split at hw
      · rename_i h2; exact h2.1
      · cases hw
  · obtain ⟨m, hm⟩ := List.mem_iff_getElem?.1 hq
    exact ((h.tab t ht).1.key m q.1 q.2 hm).2.2.2.2.1
end

end Go.Proofs.Qxb6500568aGreatDoor
