import Derived.Test.Qxb6500568aGreatDoorNa
namespace Go.Proofs.Qxb6500568aGreatDoor
open Ieee
set_option linter.unusedVariables false
set_option linter.unusedSimpArgs false
set_option linter.unusedSectionVars false

/-! The pools of the functions only grow; the chain of functions stays sound. -/

/-- a function's pools have grown. -/
structure Gw (f g : FS) : Prop where
  np : g.np = f.np
  ns : f.ns ≤ g.ns
  ups : f.ups <+: g.ups
  ks : f.ks <+: g.ks
  outer : g.outer = f.outer
  upos : f.upos <+: g.upos
theorem Gw.refl (f : FS) : Gw f f := ⟨rfl, Nat.le_refl _, List.prefix_refl _, List.prefix_refl _, rfl, List.prefix_refl _⟩
theorem Gw.trans {f g h : FS} (a : Gw f g) (b : Gw g h) : Gw f h :=
  ⟨b.np.trans a.np, Nat.le_trans a.ns b.ns, a.ups.trans b.ups, a.ks.trans b.ks, b.outer.trans a.outer, a.upos.trans b.upos⟩
theorem Gw.of_eq {f g : FS} (h : g = f) : Gw f g := h ▸ Gw.refl _
theorem pre_get {α : Type} {l m : List α} (h : l <+: m) {i : Nat} {x : α} (k : l[i]? = some x) : m[i]? = some x := by
  obtain ⟨r, rfl⟩ := h
  rw [List.getElem?_append_left (List.getElem?_eq_some_iff.1 k).1]
  exact k

/-- where the upvalues of function n lie, whose text stands in function j at the locals L. -/
def UpS (S : Fns) (j : Nat) (L : List Str) (n : Nat) : Prop :=
  (fsAt S n).outer = (vis L).map (·.1) ++ (fsAt S j).outer ∧ (fsAt S n).ups.length = (fsAt S n).upos.length ∧
  ∀ (u k x : Nat), (fsAt S n).ups[u]? = some (k, x) →
    (k = 1 ∧ ∃ (p : Nat) (nm : Str), (vis L)[p]? = some (nm, x) ∧ (fsAt S n).upos[u]? = some p) ∨
    (k = 0 ∧ ∃ p : Nat, (fsAt S j).upos[x]? = some p ∧ (fsAt S n).upos[u]? = some ((vis L).length + p))
/-- the chain above function j. -/
def ChOK (S : Fns) : Nat → Chn → Prop
  | j, [] => (fsAt S j).outer = [] ∧ (fsAt S j).ups = [] ∧ (fsAt S j).upos = []
  | j, (p, L) :: r => UpS S p L j ∧ ChOK S p r
def chF (j : Nat) (r : Chn) : List Nat := j :: r.map (·.1)
/-- the functions of the chain and those to come. -/
structure Fit (S : Fns) (j : Nat) (r : Chn) (N : List Nat) : Prop where
  nd : (chF j r ++ N).Nodup
  lt : ∀ k ∈ chF j r ++ N, k < S.length
/-- what a piece does to the functions. -/
structure Mo (j : Nat) (r : Chn) (N : List Nat) (S S' : Fns) : Prop where
  len : S'.length = S.length
  ext : ∀ k, k ∉ N → Gw (fsAt S k) (fsAt S' k)
  same : ∀ k, k ∉ N → k ∉ chF j r → fsAt S' k = fsAt S k
  ch : ChOK S' j r

theorem fsAt_mod {S : Fns} {j k : Nat} {f : FS → FS} (h : j < S.length) : fsAt (S.modify j f) k = if k = j then f (fsAt S j) else fsAt S k := by
  unfold fsAt
  simp only [List.getD_eq_getElem?_getD, List.getElem?_modify]
  by_cases hk : k = j
  · subst hk
    simp [List.getElem?_eq_getElem h]
  · have hk' : ¬ j = k := fun q => hk q.symm
    rw [if_neg hk]
    simp only [hk', if_false]
    cases S[k]? <;> rfl
theorem fsAt_set {S : Fns} {j k : Nat} {f : FS} (h : j < S.length) : fsAt (S.set j f) k = if k = j then f else fsAt S k := by
  unfold fsAt
  simp only [List.getD_eq_getElem?_getD, List.getElem?_set]
  by_cases hk : k = j
  · subst hk; simp [h]
  · rw [if_neg hk, if_neg (fun (q : j = k) => hk q.symm)]

theorem UpS.mono {S S' : Fns} {j n : Nat} {L : List Str} (h : UpS S j L n) (hn : (fsAt S' n).ups = (fsAt S n).ups ∧ (fsAt S' n).upos = (fsAt S n).upos ∧ (fsAt S' n).outer = (fsAt S n).outer) (hj : Gw (fsAt S j) (fsAt S' j)) : UpS S' j L n := by
  obtain ⟨h1, h2, h3⟩ := h
  obtain ⟨n1, n2, n3⟩ := hn
  refine ⟨by rw [n3, hj.outer]; exact h1, by rw [n1, n2]; exact h2, fun u k x hu => ?_⟩
  rw [n1] at hu
  rw [n2]
  rcases h3 u k x hu with h | ⟨rfl, p, h5, h6⟩
  · exact .inl h
  · exact .inr ⟨rfl, p, pre_get hj.upos h5, h6⟩
theorem ChOK.same {S S' : Fns} : ∀ {r : Chn} {j : Nat}, ChOK S j r → (∀ k ∈ chF j r, (fsAt S' k).ups = (fsAt S k).ups ∧ (fsAt S' k).upos = (fsAt S k).upos ∧ (fsAt S' k).outer = (fsAt S k).outer) → ChOK S' j r
  | [], j, h, e => by
    obtain ⟨a, b, c⟩ := e j (List.mem_cons_self)
    exact ⟨by rw [c]; exact h.1, by rw [a]; exact h.2.1, by rw [b]; exact h.2.2⟩
  | (p, L) :: r, j, h, e => by
    refine ⟨?_, ChOK.same h.2 fun k hk => e k (List.mem_cons_of_mem _ hk)⟩
    have hj := e j (List.mem_cons_self)
    have hp := e p (by simp [chF])
    obtain ⟨h1, h2, h3⟩ := h.1
    refine ⟨by rw [hj.2.2, hp.2.2]; exact h1, by rw [hj.1, hj.2.1]; exact h2, ?_⟩
    rw [hj.1, hj.2.1, hp.2.1]
    exact h3

theorem Mo.refl {j : Nat} {r : Chn} {S : Fns} (h : ChOK S j r) : Mo j r [] S S := ⟨rfl, fun k _ => Gw.refl _, fun k _ _ => rfl, h⟩
theorem Mo.trans {j : Nat} {r : Chn} {N M : List Nat} {S T U : Fns} (a : Mo j r N S T) (b : Mo j r M T U) : Mo j r (N ++ M) S U :=
  ⟨b.len.trans a.len, fun k hk => (a.ext k fun q => hk (List.mem_append_left _ q)).trans (b.ext k fun q => hk (List.mem_append_right _ q)),
   fun k hk hc => (b.same k (fun q => hk (List.mem_append_right _ q)) hc).trans (a.same k (fun q => hk (List.mem_append_left _ q)) hc), b.ch⟩
theorem Mo.tr0 {j : Nat} {r : Chn} {N : List Nat} {S T U : Fns} (a : Mo j r N S T) (b : Mo j r [] T U) : Mo j r N S U := by
  have := a.trans b; rwa [List.append_nil] at this
theorem Fit.mo {j : Nat} {r : Chn} {N M : List Nat} {S T : Fns} (h : Fit S j r N) (m : Mo j r M S T) : Fit T j r N := ⟨h.nd, fun k hk => by rw [m.len]; exact h.lt k hk⟩
theorem Fit.left {j : Nat} {r : Chn} {N M : List Nat} {S : Fns} (h : Fit S j r (N ++ M)) : Fit S j r N := by
  have e : (chF j r ++ N).Sublist (chF j r ++ (N ++ M)) := List.Sublist.append_left (List.sublist_append_left _ _) _
  exact ⟨h.nd.sublist e, fun k hk => h.lt k (e.subset hk)⟩
theorem Fit.right {j : Nat} {r : Chn} {N M : List Nat} {S : Fns} (h : Fit S j r (N ++ M)) : Fit S j r M := by
  have e : (chF j r ++ M).Sublist (chF j r ++ (N ++ M)) := List.Sublist.append_left (List.sublist_append_right _ _) _
  exact ⟨h.nd.sublist e, fun k hk => h.lt k (e.subset hk)⟩
theorem Fit.ltj {j : Nat} {r : Chn} {N : List Nat} {S : Fns} (h : Fit S j r N) : j < S.length := h.lt j (by simp [chF])

/-- a change of one function of the chain that leaves its upvalues. -/
theorem Mo.one {j : Nat} {r : Chn} {S : Fns} {f : FS → FS} (hl : j < S.length) (hc : ChOK S j r) (he : ∀ g, Gw g (f g)) (hu : ∀ g, (f g).ups = g.ups ∧ (f g).upos = g.upos ∧ (f g).outer = g.outer) : Mo j r [] S (S.modify j f) := by
  refine ⟨by simp, fun k _ => ?_, fun k _ hk => ?_, hc.same fun k _ => ?_⟩ <;> rw [fsAt_mod hl]
  · by_cases hk : k = j
    · subst hk; rw [if_pos rfl]; exact he _
    · rw [if_neg hk]; exact Gw.refl _
  · rw [if_neg fun (q : k = j) => hk (q ▸ List.mem_cons_self)]
  · by_cases hk : k = j
    · subst hk; rw [if_pos rfl]; exact hu _
    · rw [if_neg hk]; exact ⟨rfl, rfl, rfl⟩
theorem declF_mo {j n : Nat} {r : Chn} {S : Fns} (hl : j < S.length) (hc : ChOK S j r) : Mo j r [] S (declF j n S) :=
  Mo.one hl hc (fun g => ⟨rfl, Nat.le_max_left _ _, List.prefix_refl _, List.prefix_refl _, rfl, List.prefix_refl _⟩) (fun g => ⟨rfl, rfl, rfl⟩)
theorem declF_ns {j n : Nat} {S : Fns} (hl : j < S.length) : n ≤ (fsAt (declF j n S) j).ns := by
  unfold declF; rw [fsAt_mod hl, if_pos rfl]; exact Nat.le_max_right _ _

theorem posP_some {α : Type} {p : α → Bool} : ∀ {l : List α} {i : Nat}, posP p l = some i → ∃ x, l[i]? = some x ∧ p x = true
  | [], i, h => by simp [posP] at h
  | y :: l, i, h => by
    unfold posP at h
    by_cases hp : p y = true
    · rw [if_pos hp] at h; injection h with h; subst h; exact ⟨y, rfl, hp⟩
    · rw [if_neg hp] at h
      rcases hq : posP p l with _ | k
      · rw [hq] at h; simp at h
      · rw [hq] at h; simp at h; subst h
        obtain ⟨x, h1, h2⟩ := posP_some hq
        exact ⟨x, by simpa using h1, h2⟩
theorem posP_none {α : Type} {p : α → Bool} : ∀ {l : List α}, posP p l = none → ∀ x ∈ l, p x = false
  | [], h, x, hx => by cases hx
  | y :: l, h, x, hx => by
    unfold posP at h
    by_cases hp : p y = true
    · rw [if_pos hp] at h; cases h
    · rw [if_neg hp] at h
      rcases List.mem_cons.1 hx with rfl | hx
      · simpa using hp
      · rcases hq : posP p l with _ | k
        · exact posP_none hq x hx
        · rw [hq] at h; simp at h
theorem eqPV_iff {u v : PV} : eqPV u v = true ↔ u = v := by unfold eqPV; exact @decide_eq_true_iff (u = v) (PV.dec u v)

theorem conF_mo {j : Nat} {r : Chn} {v : PV} {S : Fns} (hl : j < S.length) (hc : ChOK S j r) : Mo j r [] S (conF j v S).2 ∧ (fsAt (conF j v S).2 j).ks[(conF j v S).1]? = some v := by
  unfold conF
  rcases hq : posP (eqPV v) (fsAt S j).ks with _ | k
  · refine ⟨Mo.one hl hc (fun g => ⟨rfl, Nat.le_refl _, List.prefix_refl _, List.prefix_append _ _, rfl, List.prefix_refl _⟩) (fun g => ⟨rfl, rfl, rfl⟩), ?_⟩
    show (fsAt (S.modify j _) j).ks[_]? = _
    rw [fsAt_mod hl, if_pos rfl]
    simp
  · refine ⟨Mo.refl hc, ?_⟩
    obtain ⟨x, h1, h2⟩ := posP_some hq
    rw [eqPV_iff.1 h2]
    exact h1

/-! names -/
theorem visF_acc : ∀ (L : List Str) (i : Nat) (acc : List (Str × Nat)), visF L i acc = visF L i [] ++ acc
  | [], i, acc => rfl
  | s :: l, i, acc => by
    unfold visF
    rw [visF_acc l (i + 1) (if s = [] then acc else (s, i) :: acc), visF_acc l (i + 1) (if s = [] then [] else [(s, i)]), List.append_assoc]
    by_cases h : s = [] <;> simp [h]
theorem visF_mem2 : ∀ {L : List Str} {i : Nat} {q : Str × Nat}, q ∈ visF L i [] → i ≤ q.2 ∧ q.1 ≠ [] ∧ L[q.2 - i]? = some q.1
  | [], i, q, h => by cases h
  | s :: l, i, q, h => by
    unfold visF at h
    rw [visF_acc] at h
    rcases List.mem_append.1 h with h | h
    · obtain ⟨h1, h2, h3⟩ := visF_mem2 h
      refine ⟨by omega, h2, ?_⟩
      rw [show q.2 - i = (q.2 - (i + 1)) + 1 by omega]
      simpa using h3
    · by_cases hs : s = []
      · rw [if_pos hs] at h; cases h
      · rw [if_neg hs] at h
        simp at h; subst h
        exact ⟨Nat.le_refl _, hs, by simp⟩
theorem visF_nodup : ∀ (L : List Str) (i : Nat), ((visF L i []).map (·.2)).Nodup
  | [], i => List.nodup_nil
  | s :: l, i => by
    unfold visF
    rw [visF_acc, List.map_append, List.nodup_append]
    refine ⟨visF_nodup l (i + 1), ?_, fun a ha b hb => ?_⟩
    · by_cases hs : s = [] <;> simp [hs]
    · obtain ⟨q, hq, rfl⟩ := List.mem_map.1 ha
      have := (visF_mem2 hq).1
      by_cases hs : s = []
      · simp [hs] at hb
      · simp [hs] at hb; omega
theorem vis_inj {L : List Str} {p p' : Nat} {nm nm' : Str} {s : Nat} (h : (vis L)[p]? = some (nm, s)) (h' : (vis L)[p']? = some (nm', s)) : p = p' := by
  have hn := visF_nodup L 0
  have h1 : ((vis L).map (·.2))[p]? = some s := by rw [List.getElem?_map, h]; rfl
  have h2 : ((vis L).map (·.2))[p']? = some s := by rw [List.getElem?_map, h']; rfl
  obtain ⟨l1, e1⟩ := List.getElem?_eq_some_iff.1 h1
  obtain ⟨l2, e2⟩ := List.getElem?_eq_some_iff.1 h2
  exact (List.getElem_inj (h₀ := l1) (h₁ := l2) hn).1 (e1.trans e2.symm)
theorem lookA_pos : ∀ {l : List (Str × Nat)} {nm : Str}, (match lookA l nm with | some s => ∃ p, posN (l.map (·.1)) nm = some p ∧ l[p]? = some (nm, s) | none => posN (l.map (·.1)) nm = none)
  | [], nm => rfl
  | q :: l, nm => by
    unfold lookA
    by_cases h : q.1 = nm
    · rw [if_pos h]
      refine ⟨0, ?_, by rw [← h]; rfl⟩
      show posN (q.1 :: l.map (·.1)) nm = _
      unfold posN; rw [if_pos h]
    · rw [if_neg h]
      have := lookA_pos (l := l) (nm := nm)
      have e : posN ((q :: l).map (·.1)) nm = (posN (l.map (·.1)) nm).map (· + 1) := by
        show posN (q.1 :: l.map (·.1)) nm = _
        conv => lhs; unfold posN
        rw [if_neg h]
      rcases hl : lookA l nm with _ | s <;> rw [hl] at this
      · show posN _ _ = none
        rw [e, this]; rfl
      · obtain ⟨p, h1, h2⟩ := this
        exact ⟨p + 1, by rw [e, h1]; rfl, by simpa using h2⟩
theorem posN_app : ∀ (a b : List Str) (nm : Str), posN (a ++ b) nm = match posN a nm with | some p => some p | none => (posN b nm).map (a.length + ·)
  | [], b, nm => by
    show posN b nm = (posN b nm).map (0 + ·)
    cases posN b nm <;> simp
  | x :: a, b, nm => by
    have e : ∀ l, posN (x :: l) nm = if x = nm then some 0 else (posN l nm).map (· + 1) := fun l => rfl
    show posN (x :: (a ++ b)) nm = _
    rw [e, e]
    by_cases h : x = nm
    · simp [h]
    · rw [if_neg h, if_neg h, posN_app a b nm]
      rcases posN a nm with _ | p
      · show ((posN b nm).map (a.length + ·)).map (· + 1) = (posN b nm).map ((x :: a).length + ·)
        rw [Option.map_map]
        congr 1
        funext k
        show a.length + k + 1 = (a.length + 1) + k
        omega
      · rfl

end Go.Proofs.Qxb6500568aGreatDoor
