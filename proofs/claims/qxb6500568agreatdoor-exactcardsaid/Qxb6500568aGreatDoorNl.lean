import Derived.Test.Qxb6500568aGreatDoorNk
namespace Go.Proofs.Qxb6500568aGreatDoor
open Ieee
set_option linter.unusedVariables false
set_option linter.unusedSimpArgs false
set_option linter.unusedSectionVars false

/-! Bounds of what the compiler makes. -/

def OpsOK (c : Cod) : Prop := ∀ i ∈ c, i.1 < 256 ∧ i.2 < 65535
theorem OpsOK.nil : OpsOK [] := fun i hi => by cases hi
theorem OpsOK.cons {i : Nat × Nat} {c : Cod} (h1 : i.1 < 256) (h2 : i.2 < 65535) (h : OpsOK c) : OpsOK (i :: c) := fun y hy => by
  rcases List.mem_cons.1 hy with rfl | hy
  · exact ⟨h1, h2⟩
  · exact h y hy
theorem OpsOK.app {c d : Cod} (h : OpsOK c) (k : OpsOK d) : OpsOK (c ++ d) := fun y hy => by
  rcases List.mem_append.1 hy with hy | hy
  · exact h y hy
  · exact k y hy
def KOK (v : PV) : Prop := (∃ n, v = vNum n ∧ W64 n ∧ (isNaNW n = true → n = nanB)) ∨ (∃ s, v = vStr s ∧ s.length ≤ 40)
def UOK (l : List (Nat × Nat)) (d : Nat) : Prop := l.Nodup ∧ ∀ e ∈ l, (e.1 = 1 ∧ e.2 < 12 ∧ 1 ≤ d) ∨ (e.1 = 0 ∧ e.2 + 12 < 12 * d)
def FOK (f : FS) : Prop := f.ns ≤ 12 ∧ f.np ≤ 3 ∧ f.np ≤ f.ns ∧ (∀ v ∈ f.ks, KOK v) ∧ OpsOK f.code ∧ ∃ d, d ≤ 12 ∧ UOK f.ups d
/-- the bytes of a constant, of a function, of all. -/
def kb (v : PV) : Nat := if v.T = 2 then 9 else 2 + v.S.length
def fb (f : FS) : Nat := 2 * f.ups.length + (f.ks.map kb).sum + 3 * f.code.length
def tot (S : Fns) : Nat := (S.map fb).sum
def UCh (S : Fns) : Nat → Chn → Prop
  | j, [] => (fsAt S j).ups = []
  | j, (p, L) :: q => UOK (fsAt S j).ups (q.length + 1) ∧ UCh S p q
structure BD (S : Fns) (j : Nat) (r : Chn) : Prop where
  f : ∀ k, FOK (fsAt S k)
  c : UCh S j r
  l : ∀ p ∈ r, p.2.length ≤ 12
  n : S.length ≤ 13

theorem nodup_lt : ∀ {n : Nat} {l : List Nat}, l.Nodup → (∀ x ∈ l, x < n) → l.length ≤ n
  | 0, [], _, _ => Nat.le_refl _
  | 0, x :: l, _, h => by have := h x List.mem_cons_self; omega
  | n + 1, l, hd, h => by
    have h1 : (l.erase n).Nodup := hd.erase n
    have h2 : ∀ x ∈ l.erase n, x < n := fun x hx => by
      have := h x (List.mem_of_mem_erase hx)
      have hne : x ≠ n := fun e => (List.Nodup.not_mem_erase hd) (e ▸ hx)
      omega
    have h3 := nodup_lt h1 h2
    by_cases hm : n ∈ l
    · rw [List.length_erase_of_mem hm] at h3; omega
    · rw [List.erase_of_not_mem hm] at h3; omega
theorem UOK.len {l : List (Nat × Nat)} {d : Nat} (h : UOK l d) : l.length ≤ 12 * d := by
  have hn : (l.map fun e => if e.1 = 1 then e.2 else e.2 + 12).Nodup := by
    rw [List.nodup_iff_pairwise_ne, List.pairwise_map]
    refine (List.nodup_iff_pairwise_ne.1 h.1).imp_of_mem fun {a b} ha hb hab => ?_
    intro e
    rcases h.2 a ha with ⟨a1, a2, -⟩ | ⟨a1, a2⟩ <;> rcases h.2 b hb with ⟨b1, b2, -⟩ | ⟨b1, b2⟩ <;> simp only [a1, b1] at e <;> simp at e
    · exact hab (Prod.ext (a1.trans b1.symm) e)
    · omega
    · omega
    · exact hab (Prod.ext (a1.trans b1.symm) e)
  have := nodup_lt hn (n := 12 * d) (fun x hx => by
    obtain ⟨e, he, rfl⟩ := List.mem_map.1 hx
    rcases h.2 e he with ⟨a1, a2, a3⟩ | ⟨a1, a2⟩ <;> simp [a1] <;> omega)
  rwa [List.length_map] at this

theorem Fit.rlen {S : Fns} {j : Nat} {r : Chn} {N : List Nat} (h : Fit S j r N) (hn : S.length ≤ 13) : r.length ≤ 12 := by
  have := nodup_lt (List.nodup_append.1 h.nd).1 (fun x hx => h.lt x (List.mem_append_left _ hx))
  simp [chF] at this
  omega

theorem tot_mod {f : FS → FS} {c : Nat} (h : ∀ g, fb (f g) ≤ fb g + c) : ∀ (S : Fns) (j : Nat), tot (S.modify j f) ≤ tot S + c
  | [], j => by simp [tot]
  | x :: S, 0 => by
    have := h x
    simp only [tot, List.modify_zero_cons, List.map_cons, List.sum_cons]; omega
  | x :: S, j + 1 => by
    have := tot_mod h S j
    simp only [tot, List.modify_succ_cons, List.map_cons, List.sum_cons] at this ⊢; omega
theorem tot_set {g : FS} (h : fb g = 0) : ∀ (S : Fns) (j : Nat), tot (S.set j g) ≤ tot S
  | [], j => by simp [tot]
  | x :: S, 0 => by simp only [tot, List.set_cons_zero, List.map_cons, List.sum_cons]; omega
  | x :: S, j + 1 => by
    have := tot_set h S j
    simp only [tot, List.set_cons_succ, List.map_cons, List.sum_cons] at this ⊢; omega
theorem fb_tot : ∀ (S : Fns) (j : Nat), fb (fsAt S j) ≤ tot S
  | [], j => by simp [fsAt, fb, FS.zero]
  | x :: S, 0 => by simp only [tot, List.map_cons, List.sum_cons, fsAt, List.getD_cons_zero]; omega
  | x :: S, j + 1 => by
    have := fb_tot S j
    simp only [tot, List.map_cons, List.sum_cons, fsAt, List.getD_cons_succ] at this ⊢; omega
theorem ks_sum : ∀ (l : List PV), 2 * l.length ≤ (l.map kb).sum
  | [] => by simp
  | v :: l => by
    have := ks_sum l
    have : 2 ≤ kb v := by unfold kb; split <;> omega
    simp only [List.map_cons, List.sum_cons, List.length_cons]; omega
theorem ks_tot (S : Fns) (j : Nat) : 2 * (fsAt S j).ks.length ≤ tot S := by
  have h1 := fb_tot S j
  have h2 := ks_sum (fsAt S j).ks
  unfold fb at h1
  omega

theorem UCh.same {S S' : Fns} : ∀ {r : Chn} {j : Nat}, UCh S j r → (∀ k ∈ chF j r, (fsAt S' k).ups = (fsAt S k).ups) → UCh S' j r
  | [], j, h, e => by show (fsAt S' j).ups = []; rw [e j List.mem_cons_self]; exact h
  | (p, L) :: r, j, h, e => by
    refine ⟨?_, UCh.same h.2 fun k hk => e k (List.mem_cons_of_mem _ hk)⟩
    rw [e j List.mem_cons_self]; exact h.1
theorem BD.mod {S : Fns} {j : Nat} {r : Chn} {f : FS → FS} (h : BD S j r) (hl : j < S.length) (hf : FOK (f (fsAt S j))) (hu : ∀ g, (f g).ups = g.ups) : BD (S.modify j f) j r := by
  refine ⟨fun k => ?_, h.c.same fun k _ => ?_, h.l, by rw [List.length_modify]; exact h.n⟩ <;> rw [fsAt_mod hl]
  · by_cases hk : k = j
    · rw [if_pos hk]; exact hf
    · rw [if_neg hk]; exact h.f k
  · by_cases hk : k = j
    · rw [if_pos hk, hu, hk]
    · rw [if_neg hk]

section
variable {S : Fns} {j : Nat} {r : Chn}
theorem declF_bd {n : Nat} (h : BD S j r) (hl : j < S.length) (hn : n ≤ 12) : BD (declF j n S) j r ∧ tot (declF j n S) ≤ tot S := by
  obtain ⟨f1, f2, f3, f4, f5, f6⟩ := h.f j
  refine ⟨h.mod hl ⟨?_, f2, ?_, f4, f5, f6⟩ (fun g => rfl), ?_⟩
  · show max _ _ ≤ _; omega
  · exact Nat.le_trans f3 (Nat.le_max_left _ _)
  · have := tot_mod (f := fun f => { f with ns := max f.ns n }) (c := 0) (fun g => Nat.le_refl _) S j
    exact this
theorem conF_bd {v : PV} (h : BD S j r) (hl : j < S.length) (hv : KOK v) : BD (conF j v S).2 j r ∧ tot (conF j v S).2 ≤ tot S + kb v ∧ 2 * (conF j v S).1 ≤ tot S := by
  obtain ⟨f1, f2, f3, f4, f5, f6⟩ := h.f j
  unfold conF
  rcases hq : posP (eqPV v) (fsAt S j).ks with _ | k
  · refine ⟨h.mod hl ⟨f1, f2, f3, ?_, f5, f6⟩ (fun g => rfl), tot_mod (fun g => ?_) S j, ks_tot S j⟩
    · intro u hu
      rcases List.mem_append.1 hu with hu | hu
      · exact f4 u hu
      · rw [List.mem_singleton.1 hu]; exact hv
    · simp only [fb, List.map_append, List.sum_append, List.map_cons, List.map_nil, List.sum_cons, List.sum_nil]; omega
  · refine ⟨h, Nat.le_add_right _ _, ?_⟩
    obtain ⟨x, h1, -⟩ := posP_some hq
    have := (List.getElem?_eq_some_iff.1 h1).1
    have := ks_tot S j
    show 2 * k ≤ tot S
    omega
theorem addUp_bd {p : Nat} {L : List Str} {q : Chn} {d : Nat × Nat} {pp : Nat} (h : BD S j ((p, L) :: q)) (hl : j < S.length) (hj : j ∉ chF p q) (hq : q.length + 1 ≤ 12)
    (hd : (d.1 = 1 ∧ d.2 < 12 ∧ 1 ≤ q.length + 1) ∨ (d.1 = 0 ∧ d.2 + 12 < 12 * (q.length + 1))) :
    BD (addUp j d pp S).2 j ((p, L) :: q) ∧ tot (addUp j d pp S).2 ≤ tot S + 2 ∧ (addUp j d pp S).1 < (fsAt (addUp j d pp S).2 j).ups.length := by
  unfold addUp
  rcases hq' : posP (fun e => decide (e = d)) (fsAt S j).ups with _ | i
  · have hm : ∀ k, fsAt (S.modify j fun f => { f with ups := f.ups ++ [d], upos := f.upos ++ [pp] }) k = if k = j then { fsAt S j with ups := (fsAt S j).ups ++ [d], upos := (fsAt S j).upos ++ [pp] } else fsAt S k := fun k => fsAt_mod hl
    have hU : UOK ((fsAt S j).ups ++ [d]) (q.length + 1) := by
      have hc := h.c.1
      refine ⟨?_, fun e he => ?_⟩
      · rw [List.nodup_append]
        refine ⟨hc.1, by simp, fun a ha b hb => ?_⟩
        rw [List.mem_singleton.1 hb]
        intro e
        have := posP_none hq' a ha
        simp [e] at this
      · rcases List.mem_append.1 he with he | he
        · exact hc.2 e he
        · rw [List.mem_singleton.1 he]; exact hd
    obtain ⟨f1, f2, f3, f4, f5, f6⟩ := h.f j
    refine ⟨⟨fun k => ?_, ⟨?_, h.c.2.same fun k hk => ?_⟩, h.l, by rw [List.length_modify]; exact h.n⟩, tot_mod (fun g => ?_) S j, ?_⟩
    · show FOK (fsAt (S.modify j _) k)
      rw [hm]
      by_cases hk : k = j
      · rw [if_pos hk]; exact ⟨f1, f2, f3, f4, f5, q.length + 1, hq, hU⟩
      · rw [if_neg hk]; exact h.f k
    · show UOK (fsAt (S.modify j _) j).ups _
      rw [hm, if_pos rfl]; exact hU
    · show (fsAt (S.modify j _) k).ups = _
      rw [hm, if_neg fun (e : k = j) => hj (e ▸ hk)]
    · simp only [fb, List.length_append, List.length_cons, List.length_nil]; omega
    · show (fsAt S j).ups.length < (fsAt (S.modify j _) j).ups.length
      rw [hm, if_pos rfl]; simp
  · refine ⟨h, Nat.le_add_right _ _, ?_⟩
    obtain ⟨x, h1, -⟩ := posP_some hq'
    exact (List.getElem?_eq_some_iff.1 h1).1
theorem BD.tail {p : Nat} {L : List Str} {q : Chn} (h : BD S j ((p, L) :: q)) : BD S p q := ⟨h.f, h.c.2, fun x hx => h.l x (List.mem_cons_of_mem _ hx), h.n⟩
end

theorem lookA_lt {L : List Str} {nm : Str} {s : Nat} (h : lookA (vis L) nm = some s) : s < L.length := by
  have := lookA_pos (l := vis L) (nm := nm)
  rw [h] at this
  obtain ⟨p, -, h2⟩ := this
  have := (visF_mem2 (List.mem_of_getElem? h2)).2.2
  exact (List.getElem?_eq_some_iff.1 this).1

theorem upvF_bd : ∀ {r : Chn} {j : Nat} {L : List Str} {S : Fns} {nm : Str}, BD S j r → ChOK S j r → Fit S j r [] → BD (upvF ((j, L) :: r) nm S).2 j r ∧ tot (upvF ((j, L) :: r) nm S).2 ≤ tot S + 2 * r.length ∧
    ∀ x, (upvF ((j, L) :: r) nm S).1 = some x → x < (fsAt (upvF ((j, L) :: r) nm S).2 j).ups.length
  | [], j, L, S, nm, hb, hc, hf => ⟨hb, Nat.le_refl _, fun x h => by cases h⟩
  | (p, Lp) :: q, j, L, S, nm, hb, hc, hf => by
    have hj := (nodup_tail hf.nd).1
    have hrl := hf.rlen hb.n
    have e : upvF ((j, L) :: (p, Lp) :: q) nm S = match lookA (vis Lp) nm with
      | some s => let o := addUp j (1, s) ((posN ((vis Lp).map (·.1)) nm).getD 0) S; (some o.1, o.2)
      | none => match upvF ((p, Lp) :: q) nm S with
        | (none, S1) => (none, S1)
        | (some u, S1) => let o := addUp j (0, u) ((vis Lp).length + (fsAt S1 p).upos.getD u 0) S1; (some o.1, o.2) := by
      rfl
    rcases hl : lookA (vis Lp) nm with _ | s
    · rw [hl] at e
      have e : upvF ((j, L) :: (p, Lp) :: q) nm S = match upvF ((p, Lp) :: q) nm S with
        | (none, S1) => (none, S1)
        | (some u, S1) => let o := addUp j (0, u) ((vis Lp).length + (fsAt S1 p).upos.getD u 0) S1; (some o.1, o.2) := e
      obtain ⟨b1, b2, b3⟩ := upvF_bd (r := q) (j := p) (L := Lp) (S := S) (nm := nm) hb.tail hc.2 hf.tail
      have m1 := (upvF_ok (r := q) (j := p) (L := Lp) (S := S) (nm := nm) hc.2 hf.tail).1
      rcases hu : upvF ((p, Lp) :: q) nm S with ⟨o, S1⟩
      rw [hu] at b1 b2 b3 m1 e
      have hb1 : BD S1 j ((p, Lp) :: q) := by
        refine ⟨b1.f, ⟨?_, b1.c⟩, hb.l, b1.n⟩
        have hs : fsAt S1 j = fsAt S j := m1.same j (by simp) hj
        rw [hs]; exact hb.c.1
      rcases o with _ | u
      · rw [e]
        exact ⟨hb1, by simp only [List.length_cons]; simp only at b2; omega, fun x h => by cases h⟩
      · rw [e]
        have hu1 : u < (fsAt S1 p).ups.length := b3 u rfl
        have hd : u + 12 < 12 * (q.length + 1) := by
          rcases q with _ | ⟨⟨p2, L2⟩, q2⟩
          · have h0 : (fsAt S1 p).ups = [] := b1.c
            rw [h0] at hu1; simp at hu1
          · have h0 : UOK (fsAt S1 p).ups (q2.length + 1) := b1.c.1
            have := h0.len
            simp only [List.length_cons]
            omega
        obtain ⟨a1, a2, a3⟩ := addUp_bd (d := (0, u)) (pp := (vis Lp).length + (fsAt S1 p).upos.getD u 0) hb1 (by rw [m1.len]; exact hf.ltj) hj (by simp only [List.length_cons] at hrl; omega) (.inr ⟨rfl, hd⟩)
        refine ⟨a1, ?_, fun x h => ?_⟩
        · simp only [List.length_cons] at b2 ⊢
          show tot (addUp j (0, u) ((vis Lp).length + (fsAt S1 p).upos.getD u 0) S1).2 ≤ _
          omega
        · injection h with h; subst h; exact a3
    · rw [hl] at e
      rw [e]
      have hLp : Lp.length ≤ 12 := hb.l (p, Lp) List.mem_cons_self
      obtain ⟨a1, a2, a3⟩ := addUp_bd (d := (1, s)) (pp := (posN ((vis Lp).map (·.1)) nm).getD 0) hb hf.ltj hj (by simp only [List.length_cons] at hrl; omega) (.inl ⟨rfl, by have := lookA_lt hl; show s < 12; omega, by omega⟩)
      refine ⟨a1, ?_, fun x h => ?_⟩
      · simp only [List.length_cons]
        show tot (addUp j (1, s) ((posN ((vis Lp).map (·.1)) nm).getD 0) S).2 ≤ _
        omega
      · injection h with h; subst h; exact a3

theorem varF_bd {r : Chn} {j : Nat} {L : List Str} {S : Fns} {nm : Str} {l u g : Nat} (hb : BD S j r) (hc : ChOK S j r) (hf : Fit S j r []) (hL : L.length ≤ 12) (hn : nm.length ≤ 40) (ht : tot S ≤ 60000) (hlu : l < 256 ∧ u < 256 ∧ g < 256) :
    BD (varF l u g ((j, L) :: r) nm S).2 j r ∧ tot (varF l u g ((j, L) :: r) nm S).2 ≤ tot S + 66 ∧ OpsOK [(varF l u g ((j, L) :: r) nm S).1] := by
  have e : varF l u g ((j, L) :: r) nm S = match lookA (vis L) nm with
    | some s => ((l, s), S)
    | none => match upvF ((j, L) :: r) nm S with
      | (some x, S1) => ((u, x), S1)
      | (none, S1) => ((g, (conF j (vStr nm) S1).1), (conF j (vStr nm) S1).2) := rfl
  have hr := hf.rlen hb.n
  rcases hl : lookA (vis L) nm with _ | s
  · rw [hl] at e
    have e : varF l u g ((j, L) :: r) nm S = match upvF ((j, L) :: r) nm S with
      | (some x, S1) => ((u, x), S1)
      | (none, S1) => ((g, (conF j (vStr nm) S1).1), (conF j (vStr nm) S1).2) := e
    obtain ⟨b1, b2, b3⟩ := upvF_bd (L := L) (nm := nm) hb hc hf
    have m1 := (upvF_ok (L := L) (nm := nm) hc hf).1
    rcases hu : upvF ((j, L) :: r) nm S with ⟨o, S1⟩
    rw [hu] at b1 b2 b3 m1 e
    have b2 : tot S1 ≤ tot S + 2 * r.length := b2
    have b1 : BD S1 j r := b1
    have m1 : Mo j r [] S S1 := m1
    rcases o with _ | x
    · rw [e]
      obtain ⟨c1, c2, c3⟩ := conF_bd (S := S1) (v := vStr nm) b1 (by rw [m1.len]; exact hf.ltj) (.inr ⟨nm, rfl, hn⟩)
      have hkb : kb (vStr nm) = 2 + nm.length := rfl
      refine ⟨c1, ?_, .cons hlu.2.2 ?_ .nil⟩
      · show tot (conF j (vStr nm) S1).2 ≤ _; omega
      · show (conF j (vStr nm) S1).1 < _; omega
    · rw [e]
      have hx : x < (fsAt S1 j).ups.length := b3 x rfl
      obtain ⟨-, -, -, -, -, d, hd, hU⟩ : FOK (fsAt S1 j) := b1.f j
      have := hU.len
      refine ⟨b1, by show tot S1 ≤ _; omega, .cons hlu.2.1 (by show x < _; omega) .nil⟩
  · rw [hl] at e
    rw [e]
    have := lookA_lt hl
    exact ⟨hb, by show tot S ≤ _; omega, .cons hlu.1 (by show s < _; omega) .nil⟩

end Go.Proofs.Qxb6500568aGreatDoor
