import Derived.Test.Qxb6500568aGreatDoorKp
import Derived.Test.Qxb6500568aGreatDoorKm
/- The machine as loaded. -/
namespace Go.Proofs.Qxb6500568aGreatDoor
open Ieee
set_option linter.unusedVariables false
set_option linter.unusedSimpArgs false
set_option linter.unusedSectionVars false

/-- the machine ahead of its first step. -/
def s00 (fuel : Nat) : AS := ⟨[], [(0, [])], [⟨1, 0, []⟩], [], 0, fuel, 0, [], glob, false, ⟨0, 0, 0, [], []⟩⟩
def V00 : VS := ⟨[(0, [])], [], [⟨1, 0, [], [], []⟩]⟩
section
variable {E : VE} {nb xb : Nat} {w : World} {ow : Nat → Nat} {L : VL} {F : Fns} {fuel : Nat}
theorem protos_8 : ∀ (F : Fns) (L : VL), (L.protos F).A 7 = L.A 7 ∧ (L.protos F).A 8 = L.A 8 ∧ (L.protos F).A 11 = L.A 11
  | [], L => ⟨rfl, rfl, rfl⟩
  | f :: F, L => by
    obtain ⟨h1, h2, h3⟩ := protos_8 F (L.proto f)
    refine ⟨h1.trans ?_, h2.trans ?_, h3.trans ?_⟩ <;>
    · unfold VL.proto
      rw [VL.appA_ne _ (by decide), VL.appA_ne _ (by decide), VL.appA_ne _ (by decide), VL.appA_ne _ (by decide)]
theorem load_A (i : Nat) (hi : i ≠ 6) : (L.load F fuel).A i = (L.zero.protos F).A i := by
  unfold VL.load
  show ((L.zero.protos F).appA 6 1 _).A i = _
  exact VL.appA_ne _ hi
theorem RZ.s00 : RZ (Psf F) V00 (s00 fuel) [] := by
  have hsl : ∀ t i n, ¬ SlotAt V00.ths (Go.Proofs.Qxb6500568aGreatDoor.s00 fuel).ths t i n := by
    rintro t i n ⟨x, y, h1, h2, h3⟩
    rcases t with _ | t
    · cases h1; cases h2; exact h3
    · cases h1
  refine ⟨⟨rfl, ?_, rfl, List.nodup_nil, fun n h => (by cases h), rfl, ?_, fun t i n x h => absurd h (hsl t i n), fun t i t' i' n h => absurd h (hsl t i n), fun t i n h => absurd h (hsl t i n), fun c x h => (by cases h), ?_, ?_⟩, ?_, ?_, ⟨fun t x y h1 h2 => ?_, fun z hz => (by cases hz)⟩⟩
  · intro c p cs h
    rcases c with _ | c
    · cases h; exact ⟨rfl, fun k hk => by cases hk⟩
    · cases h
  · intro t x y h1 h2
    rcases t with _ | t
    · cases h1; cases h2; exact ⟨rfl, rfl, rfl⟩
    · cases h1
  · intro t x h
    rcases t with _ | t
    · cases h; exact List.Pairwise.nil
    · cases h
  · intro t x h c
    rcases t with _ | t
    · cases h
      exact ⟨fun q => (by cases q), fun ⟨y, q, _⟩ => (by cases q)⟩
    · cases h
  · intro y hy
    rw [List.mem_singleton.1 hy]; exact ⟨Nat.zero_le _, fun q hq => by cases hq⟩
  · intro x hx
    rw [List.mem_singleton.1 hx]; exact trivial
  · rcases t with _ | t
    · cases h1; exact trivial
    · cases h1
theorem load_V (hfl : F.length ≤ 13) (hsz : (img F).length ≤ 32768) : VSL F (L.load F fuel) V00 fuel [] 0 := by
  have hk := protos_keep F L.zero
  have h8 := protos_8 F L.zero
  have hbd := VL.protos_bd F L.zero
  refine ⟨?_, fun i h1 h2 => ?_, ⟨[(0, 0, 0)], [], ?_, ?_, ⟨rfl, ?_, rfl, [], rfl, Nat.le_refl _⟩, Nat.zero_le _⟩, ?_, Nat.zero_le _, ?_, ?_, ?_, ?_, rfl, rfl, Nat.zero_le _⟩
  · have := PT.protos F [] L.zero ⟨[], [], [], [], rfl, rfl, rfl, rfl, rfl, (fun r hr => by cases hr), rfl, rfl, rfl, rfl⟩
    rw [List.nil_append] at this
    obtain ⟨rows, D, K, Cd, h2, h3, h4, h5, h6, h7⟩ := this
    exact ⟨rows, D, K, Cd, by rw [load_A 2 (by decide)]; exact h2, by rw [load_A 3 (by decide)]; exact h3, by rw [load_A 4 (by decide)]; exact h4, by rw [load_A 5 (by decide)]; exact h5, h6, h7⟩
  · rw [load_A i (by omega)]
    have him : (img F).length = 1 + (F.flatMap fby).length := by unfold img; rw [List.length_cons]; omega
    have z0 : ∀ k, (L.zero.A k).1 = 0 := fun k => rfl
    rw [z0, z0, z0, z0] at hbd
    obtain ⟨b1, b2, b3, b4⟩ := hbd
    have : i = 2 ∨ i = 3 ∨ i = 4 ∨ i = 5 := by omega
    rcases this with rfl | rfl | rfl | rfl <;> omega
  · unfold VL.load
    show ((L.zero.protos F).appA 6 1 _).A 6 = _
    rw [VL.appA_self, hk.1]
    rfl
  · rw [load_A 7 (by decide), h8.1]; rfl
  · intro c p cs h
    rcases c with _ | c
    · cases h
      exact ⟨0, rfl, by decide, fun i x h => by cases h⟩
    · cases h
  · rw [load_A 8 (by decide), h8.2.1]; rfl
  · rw [load_A 11 (by decide), h8.2.2]; rfl
  · intro j x h
    rcases j with _ | j
    · cases h
      have hn : ((L.zero.protos F).appA 6 1 [i64c 0, i64c 0, i64c 0]).nt = 0 := hk.2.1
      unfold VL.load VL.spawn
      refine ⟨?_, ?_, ?_, ?_⟩
      · show (up1 (α := Nat → Nat × List Value) _ _ _ 0) 2 = _
        rw [hn, up1_self]; rfl
      · show (up1 (α := Nat → Nat × List Value) _ _ _ 0) 3 = _
        rw [hn, up1_self]; rfl
      · show (up1 (α := Nat → Nat × List Value) _ _ _ 0) 4 = _
        rw [hn, up1_self]; rfl
      · show up1 _ _ _ 0 = _
        rw [hn, up1_self]
    · cases h
  · intro j x h
    rcases j with _ | j
    · cases h; exact Nat.zero_le _
    · cases h
  · show (L.zero.protos F).nt + 1 = 1
    rw [hk.2.1]; rfl
theorem load_am {C : VC} {V : Nat → Value} {U : Nat → Nat → Value} (op : VOp C.E w ow (L.load C.F fuel) V U) (ht : RTab w ow C.nb C.xb [gl 11]) (hn : NmV C w ow) (hco : CO C) (hp : V 2 = .slice (some ⟨C.pg, 0, none⟩) C.F.length C.pc) (hfu : fuel < 9223372036854775808) : AMq C w ow (s00 fuel) :=
  ⟨V00, [], V, U, ⟨⟨_, op, load_V hco.fl hco.sz⟩, ht, hn, hp, hfu, hco, by decide, by decide⟩, RZ.s00⟩
theorem OwT.rg {w : World} {ow ow' : Nat → Nat} {tag : Nat} {v : Value} {e k n : Nat} {xs : List Value} (o : OwT w ow tag v e k n xs) (hE : ∀ b, ow b = tag → ow' b = tag) : OwT w ow' tag v e k n xs := ⟨o.o, fun b hb => hE b (o.t b hb)⟩
theorem TV.rg {w : World} {ow ow' : Nat → Nat} {tag : Nat} {t : TM} (h : TV w ow tag t) (hE : ∀ b, tag ≤ ow b → ow b < tag + 5 → ow' b = ow b) : TV w ow' tag t :=
  ⟨h.o.rg (fun b q => by rw [hE b (by omega) (by omega)]; exact q), h.a.rg (fun b q => by rw [hE b (by omega) (by omega)]; exact q), h.n, h.s, h.r,
    by rw [hE _ (by rw [h.nt]; omega) (by rw [h.nt]; omega)]; exact h.nt, by rw [hE _ (by rw [h.st]; omega) (by rw [h.st]; omega)]; exact h.st, by rw [hE _ (by rw [h.rt]; omega) (by rw [h.rt]; omega)]; exact h.rt⟩
theorem RTab.rg {w : World} {ow ow' : Nat → Nat} {nb xb : Nat} {T : List Tb} (h : RTab w ow nb xb T) (hE : ∀ b, rtag (ow b) → ow' b = ow b) : RTab w ow' nb xb T := by
  obtain ⟨L, cnt, h1, h2⟩ := h
  obtain ⟨V, k1, k2⟩ := h1.x
  refine ⟨L, cnt, ⟨⟨V, k1, k2.rg (fun b q => by rw [hE b (.inr (.inl q))]; exact q)⟩, by rw [hE xb (.inl h1.xt)]; exact h1.xt, h1.cl, h1.l12, fun i t hi => ?_, h1.ti, h1.rest⟩, h2⟩
  have hl := (List.getElem?_eq_some_iff.1 hi).1
  have := h1.l12
  exact (h1.tv i t hi).rg (fun b q1 q2 => hE b (.inr (.inr (by omega))))
theorem VOp.rg {E : VE} {w : World} {ow ow' : Nat → Nat} {L : VL} {V : Nat → Value} {U : Nat → Nat → Value} (h : VOp E w ow L V U) (hE : ∀ b, vmT (ow b) → ow' b = ow b) (hd : ∀ b, w.heap.size ≤ b → ow' b = 66) : VOp E w ow' L V U :=
  ⟨h.m, h.t, fun i hi => (h.a i hi).rg (fun b q => by rw [hE b (by rw [q]; unfold vmI at hi; unfold vmT; omega)]; exact q), fun j hj i hi => (h.u j hj i hi).rg (fun b q => by rw [hE b (by rw [q]; unfold thI at hi; unfold vmT; omega)]; exact q), by rw [hE _ (by rw [h.tm]; unfold vmT; omega)]; exact h.tm, by rw [hE _ (by rw [h.tt]; unfold vmT; omega)]; exact h.tt, h.nt, hd⟩
theorem PK.of (h : ∀ k, FOK (fsAt F k)) : PK (Psf F) := by
  intro p hp v hv
  unfold Psf at hp
  obtain ⟨f, hf, rfl⟩ := List.mem_map.1 hp
  obtain ⟨k, hk, rfl⟩ := List.getElem_of_mem hf
  have := (h k).2.2.2.1
  unfold fsAt at this
  rw [List.getD_eq_getElem?_getD, List.getElem?_eq_getElem hk] at this
  exact this v hv
end
end Go.Proofs.Qxb6500568aGreatDoor
