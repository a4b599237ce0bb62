import Derived.Test.Qxb6500568aGreatDoorYs
/- The interpreter: laws for step. -/
namespace Go.Proofs.Qxb6500568aGreatDoor
open Ieee
set_option linter.unusedVariables false
set_option linter.unusedSimpArgs false
set_option linter.unusedSectionVars false

/-! The tables never get fewer. -/
section
variable {G : Arena} {root : Nat} {s a b : IS}
def TEq (s s' : IS) : Prop := s'.tabs = s.tabs
theorem TEq.ite {c : Prop} [Decidable c] (h1 : TEq s a) (h2 : TEq s b) : TEq s (if c then a else b) := by split; exact h1; exact h2
def TLe (s s' : IS) : Prop := s.tabs.length ≤ s'.tabs.length
theorem TLe.ite {c : Prop} [Decidable c] (h1 : TLe s a) (h2 : TLe s b) : TLe s (if c then a else b) := by split; exact h1; exact h2
theorem TEq.le (h : TEq s a) : TLe s a := Nat.le_of_eq (congrArg List.length h).symm
theorem iback_tabs (ok : Bool) (v : PV) (s : IS) : (iback ok v s).tabs = s.tabs := by unfold iback; split <;> rfl
theorem ithrow_tabs (v : PV) (s : IS) : (ithrow v s).tabs = s.tabs := by
  unfold ithrow
  split
  · rfl
  · rw [iback_tabs]; rfl
theorem iraise_tabs (m : Str) (s : IS) : (iraise m s).tabs = s.tabs := ithrow_tabs _ _
theorem iret_tabs (u v : PV) (s : IS) : (iret u v s).tabs = s.tabs := by
  unfold iret
  split
  · rfl
  · simp only
    split
    · rw [iback_tabs]; rfl
    · split <;> rfl
theorem bindP_tabs : ∀ (f p : Nat) (zs : List PV) (e : Nat) (s : IS), (bindP G f p zs e s).2.tabs = s.tabs
  | 0, _, _, _, _ => rfl
  | f + 1, p, zs, e, s => by
    unfold bindP
    split
    · rfl
    · exact (bindP_tabs f _ _ _ _).trans rfl
theorem ienter_tabs (c : Nat) (zs : List PV) (p : Nat) (s : IS) : (ienter G root c zs p s).tabs = s.tabs := (bindP_tabs (G := G) 4 _ _ _ _).trans rfl
theorem foldr_tabs {e : Nat} : ∀ {l : List Nat} {s : IS}, (l.foldr (fun a s => ido 2 a 0 e s) s).tabs = s.tabs
  | [], s => rfl
  | a :: l, s => foldr_tabs (l := l)
theorem icall_tabs (n e : Nat) (s : IS) : (icall G n e s).tabs = s.tabs := (foldr_tabs (e := e) (s := ido 22 n _ e s)).trans rfl
theorem istmt_tabs (n e : Nat) (s : IS) : (istmt G n e s).tabs = s.tabs := by
  show TEq s (istmt G n e s)
  unfold istmt
  simp only
  repeat' (with_reducible refine TEq.ite ?_ ?_)
  all_goals first | rfl | exact (icall_tabs _ _ _).trans rfl | (split <;> rfl)
theorem iitems_tabs (n i e : Nat) (s : IS) : (iitems n i e s).tabs = s.tabs := by unfold iitems; split <;> rfl
theorem ieval_tabs (n x e : Nat) (s : IS) : s.tabs.length ≤ (ieval G n x e s).tabs.length := by
  show TLe s (ieval G n x e s)
  unfold ieval
  simp only
  repeat' (with_reducible refine TLe.ite ?_ ?_)
  all_goals first | exact Nat.le_refl _ | exact TEq.le (show TEq s (icall G _ _ _) from (icall_tabs (G := G) _ _ _).trans rfl) | (show s.tabs.length ≤ (iitems _ _ _ _).tabs.length; rw [iitems_tabs]; show _ ≤ (s.tabs ++ [[]]).length; simp) | (show s.tabs.length ≤ (s.tabs ++ [[]]).length; simp)
theorem iset_tabs (t k v : PV) (s : IS) : (iset t k v s).tabs.length = s.tabs.length := by
  unfold iset
  simp only
  repeat' split
  all_goals first | rfl | exact congrArg List.length (iraise_tabs _ _) | exact List.length_set
theorem ires_tabs (r : Res) (s : IS) : (ires r s).tabs = s.tabs := by
  unfold ires
  split
  · rfl
  · exact iraise_tabs _ _
theorem iburn_tabs (s : IS) : (iburn s).tabs = s.tabs := by unfold iburn; split <;> rfl
theorem iresume_tabs (u v : PV) (s : IS) : (iresume G root u v s).tabs = s.tabs := by
  unfold iresume
  simp only
  split
  · exact (ienter_tabs _ _ _ _).trans rfl
  · rfl
theorem iapply1_tabs (zs : List PV) (fn : PV) (s : IS) : (iapply1 G root zs fn s).tabs = s.tabs := by
  show TEq s (iapply1 G root zs fn s)
  unfold iapply1
  simp only
  repeat' (first | with_reducible refine TEq.ite ?_ ?_ | split)
  all_goals first | rfl | exact iraise_tabs _ _ | exact ithrow_tabs _ _ | exact ienter_tabs _ _ _ _ | exact iresume_tabs _ _ _
theorem iapply_tabs (x : Nat) (s : IS) : (iapply G root x s).tabs = s.tabs := by
  unfold iapply
  split
  · rfl
  · exact (iapply1_tabs _ _ _).trans rfl
theorem istep1_tabs (t : Tk) (s0 : IS) {s : IS} (h : s0.tabs = s.tabs) : s.tabs.length ≤ (istep1 G root t s0 s).tabs.length := by
  show TLe s (istep1 G root t s0 s)
  have b1 : ∀ s1 : IS, s1.tabs = s.tabs → TLe s (iburn s1) := fun s1 e => TEq.le ((iburn_tabs s1).trans e)
  have b2 : ∀ (s1 : IS) k n x e, s1.tabs = s.tabs → TLe s (ido k n x e (iburn s1)) := fun s1 k n x e q => TEq.le ((iburn_tabs s1).trans q)
  have st : ∀ (s1 : IS) u v w, s1.tabs = s.tabs → TLe s (iset u v w s1) := fun s1 u v w q => Nat.le_of_eq ((iset_tabs u v w s1).trans (congrArg List.length q)).symm
  have si : ∀ (s1 : IS) u v w n i e, s1.tabs = s.tabs → TLe s (iitems n i e (iset u v w s1)) := fun s1 u v w n i e q => by
    show s.tabs.length ≤ (iitems n i e (iset u v w s1)).tabs.length
    rw [iitems_tabs]
    exact st s1 u v w q
  unfold istep1
  simp only
  repeat' (first | with_reducible refine TLe.ite ?_ ?_ | split)
  all_goals first
    | exact Nat.le_refl _
    | exact ieval_tabs _ _ _ _
    | exact TEq.le (istmt_tabs (G := G) _ _ _)
    | exact TEq.le ((iret_tabs _ _ _).trans h)
    | exact TEq.le ((iret_tabs _ _ _).trans rfl)
    | exact TEq.le ((iraise_tabs _ _).trans rfl)
    | exact TEq.le ((iapply_tabs (G := G) (root := root) _ _).trans rfl)
    | exact TEq.le ((ires_tabs _ _).trans rfl)
    | exact b1 _ rfl
    | exact b2 _ _ _ _ _ rfl
    | exact st _ _ _ _ rfl
    | exact si _ _ _ _ _ _ _ rfl
theorem istep_tabs (s : IS) : s.tabs.length ≤ (istep G root s).tabs.length := by
  unfold istep
  split
  · exact Nat.le_refl _
  · exact istep1_tabs (s := s.setT { s.th with tasks := _ }) _ _ rfl
end

section
variable {G : Arena} {root E h h' n : Nat} {T r : List Tk} {s : IS}
theorem TkI.k3 : ∀ {T : List Tk} {h : Nat}, TkI G E T h → ∀ t ∈ T, t.k = 3 → t.x ≤ flT T
  | [], h, q, t, ht, _ => by cases ht
  | u :: r, h, q, t, ht, hk => by
    unfold TkI at q
    have q2 := q.2
    by_cases hu : u.k = 3
    · rw [if_pos hu] at q2
      rw [flT, if_pos hu]
      rcases List.mem_cons.1 ht with rfl | ht
      · exact Nat.le_refl _
      · rcases q2.2.2.2.2 with ⟨h1, -, -⟩ | ⟨h1, h2⟩
        · subst h1; cases ht
        · exact Nat.le_trans (TkI.k3 h2 t ht hk) q2.2.2.2.1
    · rw [if_neg hu] at q2
      rw [flT, if_neg hu]
      rcases List.mem_cons.1 ht with rfl | ht
      · exact absurd hk hu
      · exact TkI.k3 q2.2.2.2.2 t ht hk
theorem BW.skl (B : BW G root s) : ∀ c ∈ s.stack, c < s.ths.length := fun c hc => by
  obtain ⟨-, x, h1, -⟩ := B.sk c hc
  exact (List.getElem?_eq_some_iff.1 h1).1
theorem PW.rt (P : PW G root s T h) (hT : TkI G E T h') (hf : flT T ≤ h) : RtP s :=
  ⟨by rw [P.t]; exact P.d, fun t ht hk => by rw [P.t] at ht; rw [P.v]; exact Nat.le_trans (hT.k3 t ht hk) hf, P.b.skl⟩
theorem brk1_brkL : ∀ {T : List Tk} {q : Tk × List Tk}, brk1 T = some q → brkL T = some q
  | [], q, h => by cases h
  | t :: r, q, h => by
    unfold brk1 at h
    unfold brkL
    by_cases h3 : t.k = 3
    · rw [if_pos h3] at h; cases h
    · rw [if_neg h3] at h
      by_cases h4 : t.k = 4
      · rw [if_pos h4] at h ⊢; exact h
      · rw [if_neg h4] at h ⊢; exact brk1_brkL h
theorem nodup_le : ∀ (n : Nat) (l : List Nat), l.Nodup → (∀ x ∈ l, x < n) → l.length ≤ n
  | 0, l, _, h => by
    cases l with
    | nil => exact Nat.le_refl _
    | cons a l => exact absurd (h a (by simp)) (Nat.not_lt_zero _)
  | n + 1, l, hd, h => by
    by_cases hn : n ∈ l
    · have h1 := List.length_erase_of_mem hn
      have h2 := nodup_le n (l.erase n) (hd.erase n) (fun x hx => by
        have h3 := (hd.mem_erase_iff).1 hx
        have := h x h3.2
        have := h3.1
        omega)
      have : 0 < l.length := List.length_pos_of_mem hn
      omega
    · exact Nat.le_succ_of_le (nodup_le n l hd (fun x hx => by
        have := h x hx
        have : x ≠ n := fun e => hn (e ▸ hx)
        omega))
theorem PW.ap (P : PW G root s T h) (hT : TkI G E T h') (hf : flT T ≤ h) (hI : IOK s) : ApP G root s := by
  have B := P.b
  have hcl := B.cl
  have hat := th_at hcl
  have hof : ∀ x ∈ s.ths, x = s.th ∨ ThI G s.envs.length s.clos.length x := fun x hx => by
    obtain ⟨k, hk⟩ := List.getElem?_of_mem hx
    by_cases e : k = s.cur
    · subst e; rw [hat] at hk; exact .inl (Option.some.inj hk).symm
    · exact .inr (B.ot k x e hk)
  refine ⟨P.rt hT hf, B.cs, fun x hx => ?_, P.st, ?_, ?_, fun x hx h1 => ?_, ?_, B.out, hI.nc, hI.nt, hI.nh⟩
  · rcases hof x hx with rfl | h
    · rw [P.d]; exact P.d8
    · exact h.d8
  · exact nodup_le s.ths.length (s.cur :: s.stack) (List.nodup_cons.2 ⟨fun hc => (B.sk _ hc).1 rfl, B.nd⟩) (fun x hx => by
      rcases List.mem_cons.1 hx with rfl | hx
      · exact hcl
      · exact B.skl x hx)
  · by_cases hs : s.stack = []
    · have := B.bt
      rw [hs] at this
      simp at this
      exact .inl this
    · exact .inr hs
  · rcases hof x hx with rfl | h
    · rw [P.st] at h1; cases h1
    · exact (h.s1 h1).2.2
  · have := B.fi; have := hI.nt; omega
theorem EvP.of (hA : AOK G) (hn : n < G.length) (h0 : (nd G 0).K = 0) (ht : 0 < s.tabs.length) (hE : n = 0 ∨ EB G n r h 1) : EvP G n s := by
  refine ⟨hn, fun hn0 => ?_, fun h19 => ?_, (hA n).1, (hA n).2.1, ht⟩
  · rcases hE with rfl | ⟨ex, m, hE, -, -⟩
    · exact absurd rfl hn0
    · rcases hE.inv with ⟨k, rfl⟩ | ⟨k, rfl⟩ | ⟨k, rfl⟩ | ⟨k, rfl⟩ | ⟨u, v, rfl⟩ | ⟨g, zs, rfl⟩ | ⟨k, ps, bd, rfl⟩ | ⟨zs, rfl⟩ | ⟨k, u, v, rfl⟩ | ⟨k, u, rfl⟩ | ⟨u, v, rfl⟩ | ⟨u, v, rfl⟩
      · have := IsE_lit.1 hE; omega
      · have := IsE_num.1 hE; omega
      · have := IsE_str.1 hE; omega
      · have := IsE_name.1 hE; omega
      · have := IsE_index.1 hE; omega
      · have := IsE_call.1 hE; omega
      · have := IsE_func.1 hE; omega
      · have := IsE_table.1 hE; omega
      · have := IsE_bin.1 hE; omega
      · have := IsE_un.1 hE; omega
      · have := IsE_land.1 hE; omega
      · have := IsE_lor.1 hE; omega
  · rcases hE with rfl | ⟨ex, m, hE, -, -⟩
    · rw [h0] at h19; cases h19
    · rcases hE.inv with ⟨k, rfl⟩ | ⟨k, rfl⟩ | ⟨k, rfl⟩ | ⟨k, rfl⟩ | ⟨u, v, rfl⟩ | ⟨g, zs, rfl⟩ | ⟨k, ps, bd, rfl⟩ | ⟨zs, rfl⟩ | ⟨k, u, v, rfl⟩ | ⟨k, u, rfl⟩ | ⟨u, v, rfl⟩ | ⟨u, v, rfl⟩
      · have := IsE_lit.1 hE; omega
      · have := IsE_num.1 hE; omega
      · have := IsE_str.1 hE; omega
      · have := IsE_name.1 hE; omega
      · have := IsE_index.1 hE; omega
      · exact ⟨zs, (IsE_call.1 hE).2.2.2⟩
      · have := IsE_func.1 hE; omega
      · have := IsE_table.1 hE; omega
      · have := IsE_bin.1 hE; omega
      · have := IsE_un.1 hE; omega
      · have := IsE_land.1 hE; omega
      · have := IsE_lor.1 hE; omega
end
end Go.Proofs.Qxb6500568aGreatDoor
