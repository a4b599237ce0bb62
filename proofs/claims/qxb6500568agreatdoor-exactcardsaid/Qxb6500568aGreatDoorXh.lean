import Derived.Test.Qxb6500568aGreatDoorXg
/- The model's parser: lists. -/
namespace Go.Proofs.Qxb6500568aGreatDoor
open Ieee
set_option linter.unusedVariables false
set_option linter.unusedSimpArgs false

section
variable {u u' : World} {mp g cap i x : Nat} {np : Value} {src : Str} {U : Value} {G : List (Nd × Nat)} {s : PS} {l : List Value}
/-- The arena's block. -/
structure MO (u : World) (mp g cap : Nat) (G : List (Nd × Nat)) (l : List Value) : Prop where
  b : Blk u.heap g l 148
  k1 : G.length ≤ cap
  k2 : cap ≤ 9223372036854775807
  k3 : l.length = cap * 8
  k4 : l.take (G.length * 8) = rws ndc G
  ne : g ≠ mp
theorem MA.open (hA : MA u mp np src U G s) (h : 0 < G.length) : ∃ g cap l, U = .slice (some ⟨g, 0, none⟩) G.length cap ∧ MO u mp g cap G l := by
  obtain ⟨g, cap, l, h1, h2, h3, h4, h5, h6⟩ := hA.own.pos h
  refine ⟨g, cap, l, h1, h2, h3, h4, h5, h6, fun q => hA.ne ?_⟩
  rw [← q, h1]
  rfl
/-- A link was set. -/
theorem MA.link (hA : MA u mp np src (.slice (some ⟨g, 0, none⟩) G.length cap) G s) (hO : MO u mp g cap G l) (hi : i < G.length) (hB : Blk u'.heap g (l.set (0 + i * 8 + 4) (i64c x)) 148) (f : Fram (one g) u u') : MA u' mp np src (.slice (some ⟨g, 0, none⟩) G.length cap) (lkG G i x) s := by
  obtain ⟨y, hy⟩ : ∃ y, G[i]? = some y := ⟨_, List.getElem?_eq_getElem hi⟩
  have k1 := hO.k1
  have k3 := hO.k3
  have hset := lkG_set (n := x) hy
  have hput := (OwT.put (ow := fun _ => 0) (tag := 0) (x' := ({ y.1 with Nx := x }, y.2)) (cs := [i64c x]) (j := 4) (m := 1) ndc_len hB hO.k1 hO.k2 hO.k3 hO.k4 rfl (by rw [List.set_eq_take_append_cons_drop, if_pos (by omega), Nat.zero_add, List.append_assoc]; rfl) hy rfl (by omega) rfl).o
  rw [← hset] at hput
  exact ⟨hA.v.far f (fun e => hO.ne (by have e : mp = g := e; exact e.symm)), by rw [lkG_len]; exact hput, hA.ne⟩
theorem LyE.lx {md : Nat} {t : Tr} (h : LyE md t) : LX t := ⟨h.ex, h.pos, h.rt⟩
end
theorem exl_lay : ∀ (ts : List Tr) (b : Nat), lay (ts.foldr ExL.cons ExL.nil) b = layC ts b ∧ rt (ts.foldr ExL.cons ExL.nil) b = rtC ts b ∧ ndT (ts.foldr ExL.cons ExL.nil) = ndC ts
  | [], b => ⟨rfl, rfl, rfl⟩
  | x :: ts, b => by
    obtain ⟨h1, h2, h3⟩ := exl_lay ts (b + ndT x)
    refine ⟨?_, rfl, ?_⟩
    · show nxL (lay x b) (rt (ts.foldr ExL.cons ExL.nil) (b + ndT x)) ++ lay (ts.foldr ExL.cons ExL.nil) (b + ndT x) = nxL (lay x b) (rtC ts (b + ndT x)) ++ layC ts (b + ndT x)
      rw [h1, h2]
    · show 0 + ndT x + ndT (ts.foldr ExL.cons ExL.nil) = ndT x + ndC ts
      rw [h3]; omega
theorem stl_lay : ∀ (ts : List Tr) (b : Nat), lay (ts.foldr StL.cons StL.nil) b = layC ts b ∧ rt (ts.foldr StL.cons StL.nil) b = rtC ts b ∧ ndT (ts.foldr StL.cons StL.nil) = ndC ts
  | [], b => ⟨rfl, rfl, rfl⟩
  | x :: ts, b => by
    obtain ⟨h1, h2, h3⟩ := stl_lay ts (b + ndT x)
    refine ⟨?_, rfl, ?_⟩
    · show nxL (lay x b) (rt (ts.foldr StL.cons StL.nil) (b + ndT x)) ++ lay (ts.foldr StL.cons StL.nil) (b + ndT x) = nxL (lay x b) (rtC ts (b + ndT x)) ++ layC ts (b + ndT x)
      rw [h1, h2]
    · show 0 + ndT x + ndT (ts.foldr StL.cons StL.nil) = ndT x + ndC ts
      rw [h3]; omega
theorem ndC_len : ∀ {ts : List Tr}, (∀ t ∈ ts, LX t) → ts.length ≤ ndC ts
  | [], _ => Nat.le_refl _
  | x :: l, h => by
    have h1 := (h x (by simp)).pos
    have h2 := ndC_len (fun t ht => h t (List.mem_cons_of_mem _ ht))
    show l.length + 1 ≤ ndT x + ndC l
    omega
/-- A list that is being laid: the trees so far. -/
structure LC (G : List (Nd × Nat)) (ts : List Tr) (G1 : List (Nd × Nat)) : Prop where
  m : G1.map Prod.fst = G.map Prod.fst ++ layC ts G.length
  l : G1.length = G.length + ndC ts
  x : ∀ t ∈ ts, LX t
def lst (b : Nat) (ts : List Tr) : Nat := if ts = [] then 0 else b + ndC ts - 1
theorem LC.one {G G2 : List (Nd × Nat)} {t : Tr} (hx : LX t) (hm : G2.map Prod.fst = G.map Prod.fst ++ lay t G.length) (hl : G2.length = G.length + ndT t) : LC G [t] G2 := by
  refine ⟨?_, by rw [hl]; show _ = G.length + (ndT t + 0); omega, fun z hz => by rw [List.mem_singleton.1 hz]; exact hx⟩
  rw [hm]
  show _ = _ ++ (nxL (lay t G.length) 0 ++ [])
  rw [hx.nx0, List.append_nil]
theorem LC.more {G G1 G2 : List (Nd × Nat)} {ts : List Tr} {t : Tr} (h : LC G ts G1) (hne : ts ≠ []) (hx : LX t) (hm : G2.map Prod.fst = G1.map Prod.fst ++ lay t G1.length) (hl : G2.length = G1.length + ndT t) : LC G (ts ++ [t]) (lkG G2 (G.length + ndC ts - 1) (G1.length + ndT t - 1)) := by
  have hs := ndC_snoc ts t
  have hll : (layC ts G.length).length = ndC ts := layC_len h.m h.l
  have hp := ndC_pos h.x hne
  have hlne : layC ts G.length ≠ [] := fun q => by rw [q] at hll; simp at hll; omega
  refine ⟨?_, by rw [lkG_len, hl, h.l]; omega, fun z hz => ?_⟩
  · have h3 : G2.map Prod.fst = G.map Prod.fst ++ layC ts G.length ++ lay t G1.length := by rw [hm, h.m]
    have h4 := lkG_map (n := G1.length + ndT t - 1) h3 hlne
    rw [List.length_map, hll] at h4
    rw [h4, layC_snoc hx h.x, if_neg hne, ← h.l, List.append_assoc]
  · rcases List.mem_append.1 hz with hz | hz
    · exact h.x z hz
    · rw [List.mem_singleton.1 hz]; exact hx
theorem rtC_zero {ts : List Tr} {b : Nat} (hb : 1 ≤ b) (hx : ∀ t ∈ ts, LX t) : rtC ts b = 0 ↔ ts = [] := by
  cases ts with
  | nil => exact ⟨fun _ => rfl, fun _ => rfl⟩
  | cons y l =>
    have := (hx y (by simp)).pos
    refine ⟨fun h => ?_, fun h => by cases h⟩
    have h : b + ndT y - 1 = 0 := h
    omega
end Go.Proofs.Qxb6500568aGreatDoor
