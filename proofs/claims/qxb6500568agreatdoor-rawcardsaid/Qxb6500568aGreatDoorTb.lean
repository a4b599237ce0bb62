import Derived.Test.Qxb6500568aGreatDoorTa
/- What the compiler's check asks of compiled code. -/
namespace Go.Proofs.Qxb6500568aGreatDoor
open Ieee
set_option linter.unusedVariables false
set_option linter.unusedSimpArgs false
set_option linter.unusedSectionVars false

/-- an instruction of the proto p: every operand in its range; jumps go to M at most; cl: the functions that it may name. -/
def InsOK (p : Proto) (M : Nat) (cl : Nat → Prop) (i : Nat × Nat) : Prop :=
  if i.1 = 1 then i.2 < p.ks.length
  else if i.1 = 9 ∨ i.1 = 10 then ∃ s, p.ks[i.2]? = some (vStr s)
  else if i.1 = 5 ∨ i.1 = 6 ∨ i.1 = 29 then i.2 < p.ns
  else if i.1 = 30 ∨ i.1 = 31 ∨ i.1 = 32 then i.2 + 3 < p.ns
  else if i.1 = 7 ∨ i.1 = 8 then i.2 < p.ups.length
  else if i.1 = 15 ∨ i.1 = 16 then 1 ≤ i.2 ∧ i.2 ≤ 6
  else if i.1 = 21 ∨ i.1 = 22 ∨ i.1 = 23 ∨ i.1 = 24 then i.2 ≤ M
  else if i.1 = 26 then i.2 ≤ 3
  else if i.1 = 13 then 1 ≤ i.2 ∧ i.2 ≤ 300
  else if i.1 = 28 then cl i.2
  else 1 ≤ i.1 ∧ i.1 ≤ 32 ∧ i.2 = 0
section
variable (Ps : List Proto) (Fs : Nat → FI) (pa : Nat → Nat)
def clO (j n : Nat) : Prop := j < n ∧ pa n = j ∧ n < Ps.length
def Rng (j M a b : Nat) : Prop := ∀ p, a ≤ p → p < b → ∃ i, cod Ps j p = some i ∧ InsOK (pr Ps j) M (clO Ps pa j) i
/-- a function that passes. -/
structure FG (n : Nat) : Prop where
  lt : n < Ps.length
  pos : 0 < n
  pl : pa n < n
  ups : ∀ (u k x : Nat), (pr Ps n).ups[u]? = some (k, x) → (k = 1 ∧ x < (pr Ps (pa n)).ns) ∨ (k = 0 ∧ x < (pr Ps (pa n)).ups.length)
  cd : ∃ z, Rng Ps pa n z 0 z ∧ cod Ps n z = some (2, 0) ∧ cod Ps n (z + 1) = some (2, 0) ∧ cod Ps n (z + 2) = some (27, 0) ∧ cod Ps n (z + 3) = none ∧ z ≤ 5101
/-- what is known where a piece stands. -/
structure CxT (j : Nat) (L : List Str) (N : List Nat) (d : Nat) : Prop where
  l : L.length ≤ (pr Ps j).ns
  u : (pr Ps j).ups.length = (Fs j).upos.length
  s : (j :: N).Pairwise (· < ·)
  n : d ≤ 300
structure RgR (j M : Nat) (N : List Nat) (a b : Nat) : Prop where
  le : a ≤ b
  rg : Rng Ps pa j M a b
  fg : ∀ n ∈ N, FG Ps pa n
def RE (t : Tr) : Prop := 1 ≤ ndT t ∧ ∀ (j : Nat) (L : List Str) (a b M : Nat), CE Ps Fs j L t a b → PaT pa t j → CxT Ps Fs j L (numsT t) (ndT t) → b ≤ M → RgR Ps pa j M (numsT t) a b ∧ b + 1 ≤ a + 17 * ndT t
def RA (t : Tr) : Prop := (∀ (j : Nat) (L : List Str) (a b M : Nat), CA Ps Fs j L t a b → PaT pa t j → CxT Ps Fs j L (numsT t) (ndT t) → b ≤ M → RgR Ps pa j M (numsT t) a b ∧ b ≤ a + 17 * ndT t) ∧
  ∀ (j : Nat) (L : List Str) (i a b M : Nat), CI Ps Fs j L t i a b → PaT pa t j → CxT Ps Fs j L (numsT t) (ndT t) → b ≤ M → 1 ≤ i → i + ndT t ≤ 301 → RgR Ps pa j M (numsT t) a b ∧ b ≤ a + 17 * ndT t
def RS (t : Tr) : Prop := ∀ (j : Nat) (L : List Str) (lc : List (Nat × Nat)) (a b M : Nat), CS Ps Fs j L lc t a b → PaT pa t j → CxT Ps Fs j L (numsT t) (ndT t) → (aftS L t).length ≤ (pr Ps j).ns → (∀ e ∈ lc, e.2 ≤ M) → b ≤ M → RgR Ps pa j M (numsT t) a b ∧ b ≤ a + 17 * ndT t
def RB (t : Tr) : Prop := ∀ (j : Nat) (L0 L : List Str) (lc : List (Nat × Nat)) (a b M : Nat), CB Ps Fs j L0 L lc t a b → PaT pa t j → CxT Ps Fs j L (numsT t) (ndT t) → (∀ e ∈ lc, e.2 ≤ M) → b ≤ M → RgR Ps pa j M (numsT t) a b ∧ b ≤ a + 17 * ndT t + 1
end
section
variable {Ps : List Proto} {Fs : Nat → FI} {pa : Nat → Nat} {j M a b m : Nat} {L : List Str} {N N' : List Nat} {d d' : Nat} {i : Nat × Nat}
theorem CxT.lft (h : CxT Ps Fs j L (N ++ N') d) (hd : d' ≤ d) : CxT Ps Fs j L N d' :=
  ⟨h.l, h.u, List.Pairwise.sublist (List.Sublist.cons_cons _ (List.sublist_append_left _ _)) h.s, Nat.le_trans hd h.n⟩
theorem CxT.rgt (h : CxT Ps Fs j L (N ++ N') d) (hd : d' ≤ d) : CxT Ps Fs j L N' d' :=
  ⟨h.l, h.u, List.Pairwise.sublist (List.Sublist.cons_cons _ (List.sublist_append_right _ _)) h.s, Nat.le_trans hd h.n⟩
theorem CxT.lo {L' : List Str} (h : CxT Ps Fs j L N d) (hl : L'.length ≤ (pr Ps j).ns) : CxT Ps Fs j L' N d := ⟨hl, h.u, h.s, h.n⟩
theorem CxT.dn (h : CxT Ps Fs j L N d) (hd : d' ≤ d) : CxT Ps Fs j L N d' := ⟨h.l, h.u, h.s, Nat.le_trans hd h.n⟩
theorem RgR.nil : RgR Ps pa j M [] a a := ⟨Nat.le_refl _, fun p h1 h2 => by omega, fun n hn => by cases hn⟩
theorem RgR.app (h : RgR Ps pa j M N a m) (k : RgR Ps pa j M N' m b) : RgR Ps pa j M (N ++ N') a b :=
  ⟨Nat.le_trans h.le k.le, fun p h1 h2 => by
    by_cases q : p < m
    · exact h.rg p h1 q
    · exact k.rg p (by omega) h2, fun n hn => (List.mem_append.1 hn).elim (h.fg n) (k.fg n)⟩
theorem RgR.snoc (h : RgR Ps pa j M N a b) (hc : cod Ps j b = some i) (hi : InsOK (pr Ps j) M (clO Ps pa j) i) : RgR Ps pa j M N a (b + 1) :=
  ⟨Nat.le_succ_of_le h.le, fun p h1 h2 => by
    by_cases q : p = b
    · exact ⟨i, by rw [q]; exact hc, hi⟩
    · exact h.rg p h1 (by omega), h.fg⟩
theorem RgR.one (hc : cod Ps j a = some i) (hi : InsOK (pr Ps j) M (clO Ps pa j) i) : RgR Ps pa j M [] a (a + 1) := RgR.nil.snoc hc hi
theorem RgR.cons (hc : cod Ps j a = some i) (hi : InsOK (pr Ps j) M (clO Ps pa j) i) (h : RgR Ps pa j M N (a + 1) b) : RgR Ps pa j M N a b := by
  have := (RgR.one (M := M) hc hi).app h
  rwa [List.nil_append] at this
theorem RgR.addF (h : RgR Ps pa j M [] a b) (hf : ∀ n ∈ N, FG Ps pa n) : RgR Ps pa j M N a b := ⟨h.le, h.rg, hf⟩
variable {p : Proto} {cl : Nat → Prop} {x op : Nat}
theorem in_0 (h : op = 2 ∨ op = 3 ∨ op = 4 ∨ op = 11 ∨ op = 12 ∨ op = 14 ∨ op = 17 ∨ op = 18 ∨ op = 19 ∨ op = 20 ∨ op = 25 ∨ op = 27) : InsOK p M cl (op, 0) := by
  rcases h with rfl | rfl | rfl | rfl | rfl | rfl | rfl | rfl | rfl | rfl | rfl | rfl <;> simp [InsOK]
theorem in_c (h : x < p.ks.length) : InsOK p M cl (1, x) := by simpa [InsOK] using h
theorem in_g {s : Str} (ho : op = 9 ∨ op = 10) (h : p.ks[x]? = some (vStr s)) : InsOK p M cl (op, x) := by
  rcases ho with rfl | rfl <;> (simp only [InsOK]; exact ⟨s, h⟩)
theorem in_l (ho : op = 5 ∨ op = 6 ∨ op = 29) (h : x < p.ns) : InsOK p M cl (op, x) := by
  rcases ho with rfl | rfl | rfl <;> simpa [InsOK] using h
theorem in_f (ho : op = 30 ∨ op = 31 ∨ op = 32) (h : x + 3 < p.ns) : InsOK p M cl (op, x) := by
  rcases ho with rfl | rfl | rfl <;> simpa [InsOK] using h
theorem in_u (ho : op = 7 ∨ op = 8) (h : x < p.ups.length) : InsOK p M cl (op, x) := by
  rcases ho with rfl | rfl <;> simpa [InsOK] using h
theorem in_a (ho : op = 15 ∨ op = 16) (h1 : 1 ≤ x) (h2 : x ≤ 6) : InsOK p M cl (op, x) := by
  rcases ho with rfl | rfl <;> simpa [InsOK] using ⟨h1, h2⟩
theorem in_j (ho : op = 21 ∨ op = 22 ∨ op = 23 ∨ op = 24) (h : x ≤ M) : InsOK p M cl (op, x) := by
  rcases ho with rfl | rfl | rfl | rfl <;> simpa [InsOK] using h
theorem in_k (h : x ≤ 3) : InsOK p M cl (26, x) := by simpa [InsOK] using h
theorem in_i (h1 : 1 ≤ x) (h2 : x ≤ 300) : InsOK p M cl (13, x) := by simpa [InsOK] using ⟨h1, h2⟩
theorem in_cl (h : cl x) : InsOK p M cl (28, x) := by simpa [InsOK] using h
theorem con_lt {k : Nat} {v : PV} (h : con Ps j k = some v) : k < (pr Ps j).ks.length := (List.getElem?_eq_some_iff.1 h).1
theorem in_bin (h : op = 20 ∨ (11 ≤ op ∧ op ≤ 16) ∨ (1 ≤ op ∧ op ≤ 6)) : InsOK p M cl (binI op) := by
  unfold binI
  split
  · exact in_0 (by omega)
  · split
    · exact in_a (.inr rfl) (by omega) (by omega)
    · exact in_a (.inl rfl) (by omega) (by omega)
theorem in_un : InsOK p M cl (unI op) := by
  unfold unI
  split
  · exact in_0 (by omega)
  · split
    · exact in_0 (by omega)
    · exact in_0 (by omega)
theorem cv_res {nm : Str} {l u g : Nat} (h : CV Ps Fs j L nm a l u g) (hx : CxT Ps Fs j L N d) (hl : l = 5 ∨ l = 6) (hu : u = 7 ∨ u = 8) (hg : g = 9 ∨ g = 10) : RgR Ps pa j M [] a (a + 1) := by
  unfold CV at h
  split at h
  · rename_i s hs
    exact .one h (in_l (by omega) (Nat.lt_of_lt_of_le (lookA_lt hs) hx.l))
  · split at h
    · obtain ⟨x, h1, h2⟩ := h
      exact .one h1 (in_u hu (by rw [hx.u]; exact (List.getElem?_eq_some_iff.1 h2).1))
    · obtain ⟨k, h1, h2⟩ := h
      exact .one h1 (in_g hg h2)
/-- a function's literal. -/
theorem cf_res {n : Nat} {ps : List Str} {bd : Tr} {L' : List Str} (hb : RB Ps Fs pa bd) (h : CF Ps Fs j L' n ps (fun z => CB Ps Fs n ps ps [] bd 0 z)) (hL : L'.length ≤ (pr Ps j).ns) (hpa : pa n = j ∧ PaT pa bd n) (hx : CxT Ps Fs j L (n :: numsT bd) d) (hd : ndT bd ≤ 300) : (∀ m ∈ n :: numsT bd, FG Ps pa m) ∧ clO Ps pa j n := by
  obtain ⟨h1, h2, h3, h4, h5, h6, h7, h8, z, hz, z0, z1, z2, z3⟩ := h
  have hs := hx.s
  have hjn : j < n := (List.pairwise_cons.1 hs).1 n List.mem_cons_self
  obtain ⟨R, hR⟩ := hb n ps ps [] 0 z z hz hpa.2 ⟨h6, h2.1, (List.pairwise_cons.1 hs).2, hd⟩ (fun e he => by cases he) (Nat.le_refl _)
  refine ⟨fun m hm => ?_, hjn, hpa.1, h3⟩
  rcases List.mem_cons.1 hm with rfl | hm
  · refine ⟨h3, by omega, by rw [hpa.1]; exact hjn, fun u k x hu => ?_, z, R.rg, z0, z1, z2, z3, by omega⟩
    rcases h2.2 u k x hu with ⟨q1, p', nm, q2, q3⟩ | ⟨q1, p', q2, q3⟩
    · left
      refine ⟨q1, ?_⟩
      have h4 := (List.getElem?_eq_some_iff.1 (vis_mem (List.mem_of_getElem? q2)).1).1
      rw [hpa.1]
      simp only at h4
      omega
    · right
      refine ⟨q1, ?_⟩
      rw [hpa.1, hx.u]
      exact (List.getElem?_eq_some_iff.1 q2).1
  · exact R.fg m hm
/-- a numeric loop's tail. -/
theorem cl_res {r : Nat} {body : Nat → Prop} (h : CL Ps j L r b body) (hl : L.length + 4 ≤ (pr Ps j).ns) (hb : b ≤ M) (hB : ∀ q, body q → q + 7 ≤ M → RgR Ps pa j M N (r + 6) q) : ∃ q, body q ∧ b = q + 7 ∧ RgR Ps pa j M N r b := by
  obtain ⟨c0, c1, c2, q, c3, l3, c4, c5, hq, d0, d1, d2, d3, d4, d5, l5, d6, rfl⟩ := h
  have R := hB q hq hb
  refine ⟨q, hq, rfl, ?_⟩
  have hle := R.le
  refine RgR.cons c0 (in_l (by omega) (by omega)) (.cons c1 (in_f (by omega) (by omega)) (.cons c2 (in_f (by omega) (by omega)) (.cons c3 (in_j (by omega) (by omega)) (.cons c4 (in_l (by omega) (by omega)) (.cons c5 (in_l (by omega) (by omega)) ?_)))))
  exact ((((((R.snoc d0 (in_l (by omega) (by omega))).snoc d1 (in_l (by omega) (by omega))).snoc d2 (in_l (by omega) (by omega))).snoc d3 (in_a (by omega) (by omega) (by omega))).snoc d4 (in_l (by omega) (by omega))).snoc d5 (in_j (by omega) (by omega))).snoc d6 (in_l (by omega) (by omega))
end
end Go.Proofs.Qxb6500568aGreatDoor
