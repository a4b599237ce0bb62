import Derived.Test.Qxb6500568aGreatDoorNb
namespace Go.Proofs.Qxb6500568aGreatDoor
open Ieee
set_option linter.unusedVariables false
set_option linter.unusedSimpArgs false
set_option linter.unusedSectionVars false

/-! Upvalues along the chain; variables. -/

theorem Mo.up {j p : Nat} {L : List Str} {q : Chn} {N : List Nat} {S T : Fns} (h : Mo p q N S T) (hu : UpS S p L j) (hj : j ∉ chF p q) (hN : j ∉ N) (hp : p ∉ N) : Mo j ((p, L) :: q) N S T := by
  refine ⟨h.len, h.ext, fun k hk hc => h.same k hk fun q => hc (List.mem_cons_of_mem _ q), ?_, h.ch⟩
  exact hu.mono (by rw [h.same j hN hj]; exact ⟨rfl, rfl, rfl⟩) (h.ext p hp)

theorem addUp_ok {S : Fns} {j p : Nat} {L : List Str} {q : Chn} {d : Nat × Nat} {pp : Nat} (hc : ChOK S j ((p, L) :: q)) (hl : j < S.length) (hj : j ∉ chF p q)
    (hd : (d.1 = 1 ∧ ∃ nm, (vis L)[pp]? = some (nm, d.2)) ∨ (d.1 = 0 ∧ ∃ p0, (fsAt S p).upos[d.2]? = some p0 ∧ pp = (vis L).length + p0)) :
    Mo j ((p, L) :: q) [] S (addUp j d pp S).2 ∧ (fsAt (addUp j d pp S).2 j).upos[(addUp j d pp S).1]? = some pp := by
  obtain ⟨⟨u1, u2, u3⟩, hcp⟩ := hc
  have hpj : p ≠ j := fun e => hj (e ▸ List.mem_cons_self)
  unfold addUp
  rcases hq : posP (fun e => decide (e = d)) (fsAt S j).ups with _ | i
  · have hm : ∀ k, fsAt (S.modify j fun f => { f with ups := f.ups ++ [d], upos := f.upos ++ [pp] }) k = if k = j then { fsAt S j with ups := (fsAt S j).ups ++ [d], upos := (fsAt S j).upos ++ [pp] } else fsAt S k := fun k => fsAt_mod hl
    refine ⟨⟨by simp, fun k _ => ?_, fun k _ hk => ?_, ⟨?_, ?_⟩⟩, ?_⟩
    · show Gw (fsAt S k) (fsAt (S.modify j _) k)
      rw [hm]
      by_cases hk : k = j
      · subst hk; rw [if_pos rfl]; exact ⟨rfl, Nat.le_refl _, List.prefix_append _ _, List.prefix_refl _, rfl, List.prefix_append _ _⟩
      · rw [if_neg hk]; exact Gw.refl _
    · show fsAt (S.modify j _) k = _
      rw [hm, if_neg fun (e : k = j) => hk (e ▸ List.mem_cons_self)]
    · show UpS (S.modify j _) p L j
      unfold UpS
      rw [hm, if_pos rfl, hm, if_neg hpj]
      refine ⟨u1, by simp [u2], fun u k x hu => ?_⟩
      simp only [List.getElem?_append] at hu ⊢
      rw [← u2]
      by_cases hul : u < (fsAt S j).ups.length
      · rw [if_pos hul] at hu ⊢
        exact u3 u k x hu
      · rw [if_neg hul] at hu ⊢
        rcases hx : u - (fsAt S j).ups.length with _ | y
        · rw [hx] at hu
          simp at hu
          subst hu
          rcases hd with ⟨rfl, nm, h⟩ | ⟨rfl, p0, h1, h2⟩
          · exact .inl ⟨rfl, pp, nm, h, rfl⟩
          · exact .inr ⟨rfl, p0, h1, by rw [h2]; rfl⟩
        · rw [hx] at hu; simp at hu
    · refine hcp.same fun k hk => ?_
      show (fsAt (S.modify j _) k).ups = _ ∧ (fsAt (S.modify j _) k).upos = _ ∧ (fsAt (S.modify j _) k).outer = _
      rw [hm, if_neg fun (e : k = j) => hj (e ▸ hk)]
      exact ⟨rfl, rfl, rfl⟩
    · show (fsAt (S.modify j _) j).upos[_]? = _
      rw [hm, if_pos rfl]
      show ((fsAt S j).upos ++ [pp])[(fsAt S j).ups.length]? = _
      rw [u2]; simp
  · refine ⟨Mo.refl ⟨⟨u1, u2, u3⟩, hcp⟩, ?_⟩
    obtain ⟨y, h1, h2⟩ := posP_some hq
    have h2 : y = d := by simpa using h2
    subst h2
    show (fsAt S j).upos[i]? = some pp
    rcases u3 i y.1 y.2 h1 with ⟨e1, p', nm, h3, h4⟩ | ⟨e1, p', h3, h4⟩
    · rcases hd with ⟨_, nm', h⟩ | ⟨e2, _⟩
      · rw [h4, vis_inj h3 h]
      · omega
    · rcases hd with ⟨e2, _⟩ | ⟨_, p0, h5, h6⟩
      · omega
      · rw [h4, h6]; rw [h3] at h5; injection h5 with h5; rw [h5]

theorem nodup_tail {j : Nat} {p : Nat} {L : List Str} {q : Chn} {N : List Nat} (h : (chF j ((p, L) :: q) ++ N).Nodup) : j ∉ chF p q ∧ (chF p q ++ N).Nodup := by
  have h : (j :: (chF p q ++ N)).Nodup := h
  rw [List.nodup_cons] at h
  exact ⟨fun e => h.1 (List.mem_append_left _ e), h.2⟩
theorem Fit.tail {S : Fns} {j : Nat} {p : Nat} {L : List Str} {q : Chn} {N : List Nat} (h : Fit S j ((p, L) :: q) N) : Fit S p q N :=
  ⟨(nodup_tail h.nd).2, fun k hk => h.lt k (List.mem_cons_of_mem _ hk)⟩

theorem upvF_ok : ∀ {r : Chn} {j : Nat} {L : List Str} {S : Fns} {nm : Str}, ChOK S j r → Fit S j r [] → Mo j r [] S (upvF ((j, L) :: r) nm S).2 ∧
    match posN (fsAt S j).outer nm with
    | some p => ∃ x, (upvF ((j, L) :: r) nm S).1 = some x ∧ (fsAt (upvF ((j, L) :: r) nm S).2 j).upos[x]? = some p
    | none => (upvF ((j, L) :: r) nm S).1 = none
  | [], j, L, S, nm, hc, hf => by
    refine ⟨Mo.refl hc, ?_⟩
    rw [hc.1]; rfl
  | (p, Lp) :: q, j, L, S, nm, hc, hf => by
    have hj := (nodup_tail hf.nd).1
    have e : upvF ((j, L) :: (p, Lp) :: q) nm S = match lookA (vis Lp) nm with
      | some s => let o := addUp j (1, s) ((posN ((vis Lp).map (·.1)) nm).getD 0) S; (some o.1, o.2)
      | none => match upvF ((p, Lp) :: q) nm S with
        | (none, S1) => (none, S1)
        | (some u, S1) => let o := addUp j (0, u) ((vis Lp).length + (fsAt S1 p).upos.getD u 0) S1; (some o.1, o.2) := by
      rfl
    have hou := hc.1.1
    have hpa := posN_app ((vis Lp).map (·.1)) (fsAt S p).outer nm
    rw [← hou] at hpa
    have hlk := lookA_pos (l := vis Lp) (nm := nm)
    rcases hl : lookA (vis Lp) nm with _ | s
    · rw [hl] at hlk e
      have hlk : posN ((vis Lp).map (·.1)) nm = none := hlk
      rw [hlk] at hpa
      have hpa : posN (fsAt S j).outer nm = (posN (fsAt S p).outer nm).map (((vis Lp).map (·.1)).length + ·) := hpa
      obtain ⟨m1, m2⟩ := upvF_ok (r := q) (j := p) (L := Lp) (S := S) (nm := nm) hc.2 hf.tail
      have m1' := m1.up hc.1 hj (by simp) (by simp)
      rw [hpa]
      rcases hu : upvF ((p, Lp) :: q) nm S with ⟨o, S1⟩
      rw [hu] at m1 m1' m2 e
      rcases hpo : posN (fsAt S p).outer nm with _ | p0
      · rw [hpo] at m2
        have m2 : o = none := m2
        subst m2
        rw [e]
        exact ⟨m1', rfl⟩
      · rw [hpo] at m2
        obtain ⟨x, m2, m3⟩ := m2
        have m2 : o = some x := m2
        subst m2
        rw [e]
        have hg : (fsAt S1 p).upos.getD x 0 = p0 := by rw [List.getD_eq_getElem?_getD, m3]; rfl
        obtain ⟨a1, a2⟩ := addUp_ok (d := (0, x)) (pp := (vis Lp).length + (fsAt S1 p).upos.getD x 0) m1'.ch (by rw [m1.len]; exact hf.ltj) hj (.inr ⟨rfl, p0, m3, by rw [hg]⟩)
        refine ⟨m1'.tr0 a1, ?_⟩
        refine ⟨_, rfl, ?_⟩
        refine a2.trans ?_
        rw [hg, List.length_map]
    · rw [hl] at hlk e
      obtain ⟨p1, h1, h2⟩ := hlk
      rw [h1] at hpa
      have hpa : posN (fsAt S j).outer nm = some p1 := hpa
      rw [hpa, e]
      obtain ⟨a1, a2⟩ := addUp_ok (d := (1, s)) (pp := (posN ((vis Lp).map (·.1)) nm).getD 0) hc hf.ltj hj (.inl ⟨rfl, nm, by rw [h1]; exact h2⟩)
      refine ⟨a1, _, rfl, ?_⟩
      refine a2.trans ?_
      rw [h1]; rfl

/-- what the instruction of a variable says. -/
def VarD (S' : Fns) (j : Nat) (L : List Str) (nm : Str) (l u g : Nat) (i : Nat × Nat) : Prop :=
  match lookA (vis L) nm with
  | some s => i = (l, s)
  | none => match posN (fsAt S' j).outer nm with
    | some p => ∃ x, i = (u, x) ∧ (fsAt S' j).upos[x]? = some p
    | none => ∃ k, i = (g, k) ∧ (fsAt S' j).ks[k]? = some (vStr nm)
theorem varF_ok {r : Chn} {j : Nat} {L : List Str} {S : Fns} {nm : Str} {l u g : Nat} (hc : ChOK S j r) (hf : Fit S j r []) : Mo j r [] S (varF l u g ((j, L) :: r) nm S).2 ∧ VarD (varF l u g ((j, L) :: r) nm S).2 j L nm l u g (varF l u g ((j, L) :: r) nm S).1 := by
  have e : varF l u g ((j, L) :: r) nm S = match lookA (vis L) nm with
    | some s => ((l, s), S)
    | none => match upvF ((j, L) :: r) nm S with
      | (some x, S1) => ((u, x), S1)
      | (none, S1) => ((g, (conF j (vStr nm) S1).1), (conF j (vStr nm) S1).2) := rfl
  rcases hl : lookA (vis L) nm with _ | s
  · rw [hl] at e
    have e : varF l u g ((j, L) :: r) nm S = match upvF ((j, L) :: r) nm S with
      | (some x, S1) => ((u, x), S1)
      | (none, S1) => ((g, (conF j (vStr nm) S1).1), (conF j (vStr nm) S1).2) := e
    obtain ⟨m1, m2⟩ := upvF_ok (L := L) (nm := nm) hc hf
    rcases hu : upvF ((j, L) :: r) nm S with ⟨o, S1⟩
    rw [hu] at m1 m2 e
    have hou : (fsAt S1 j).outer = (fsAt S j).outer := (m1.ext j (by simp)).outer
    rcases o with _ | x
    · rcases hp : posN (fsAt S j).outer nm with _ | p <;> rw [hp] at m2
      · obtain ⟨c1, c2⟩ := conF_mo (v := vStr nm) (by rw [m1.len]; exact hf.ltj) m1.ch
        rw [e]
        refine ⟨m1.tr0 c1, ?_⟩
        unfold VarD
        rw [hl]
        show (match posN (fsAt (conF j (vStr nm) S1).2 j).outer nm with
          | some p => ∃ x, (g, (conF j (vStr nm) S1).1) = (u, x) ∧ (fsAt (conF j (vStr nm) S1).2 j).upos[x]? = some p
          | none => ∃ k, (g, (conF j (vStr nm) S1).1) = (g, k) ∧ (fsAt (conF j (vStr nm) S1).2 j).ks[k]? = some (vStr nm))
        rw [(c1.ext j (by simp)).outer, hou, hp]
        exact ⟨_, rfl, c2⟩
      · obtain ⟨x, h, _⟩ := m2; cases h
    · rcases hp : posN (fsAt S j).outer nm with _ | p <;> rw [hp] at m2
      · cases m2
      · obtain ⟨x', h, h2⟩ := m2
        injection h with h; subst h
        rw [e]
        refine ⟨m1, ?_⟩
        unfold VarD
        rw [hl]
        show (match posN (fsAt S1 j).outer nm with
          | some p => ∃ y, (u, x) = (u, y) ∧ (fsAt S1 j).upos[y]? = some p
          | none => ∃ k, (u, x) = (g, k) ∧ (fsAt S1 j).ks[k]? = some (vStr nm))
        rw [hou, hp]
        exact ⟨_, rfl, h2⟩
  · rw [hl] at e
    rw [e]
    refine ⟨Mo.refl hc, ?_⟩
    unfold VarD
    rw [hl]
theorem VarD.ext {S S' : Fns} {j : Nat} {L : List Str} {nm : Str} {l u g : Nat} {i : Nat × Nat} (h : VarD S j L nm l u g i) (he : Gw (fsAt S j) (fsAt S' j)) : VarD S' j L nm l u g i := by
  unfold VarD at h ⊢
  rcases hl : lookA (vis L) nm with _ | s <;> rw [hl] at h
  · have h : (match posN (fsAt S j).outer nm with
      | some p => ∃ x, i = (u, x) ∧ (fsAt S j).upos[x]? = some p
      | none => ∃ k, i = (g, k) ∧ (fsAt S j).ks[k]? = some (vStr nm)) := h
    show (match posN (fsAt S' j).outer nm with
      | some p => ∃ x, i = (u, x) ∧ (fsAt S' j).upos[x]? = some p
      | none => ∃ k, i = (g, k) ∧ (fsAt S' j).ks[k]? = some (vStr nm))
    rw [he.outer]
    rcases hp : posN (fsAt S j).outer nm with _ | p <;> rw [hp] at h
    · obtain ⟨k, h1, h2⟩ := h; exact ⟨k, h1, pre_get he.ks h2⟩
    · obtain ⟨k, h1, h2⟩ := h; exact ⟨k, h1, pre_get he.upos h2⟩
  · exact h

end Go.Proofs.Qxb6500568aGreatDoor
