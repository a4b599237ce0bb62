import Derived.Test.Qxb6500568aGreatDoorKa
/- The stack machine in memory: lists grown, cut, written. -/
namespace Go.Proofs.Qxb6500568aGreatDoor
open Ieee
set_option linter.unusedVariables false
set_option linter.unusedSimpArgs false
set_option linter.unusedSectionVars false

theorem up1_id {α : Type} (f : Nat → α) (i : Nat) : up1 f i (f i) = f := by
  funext k
  unfold up1
  split
  · rename_i h; rw [h]
  · rfl
section
variable {E : VE} {w w' u u1 u2 : World} {ow ow' : Nat → Nat} {L L' : VL} {V V' : Nat → Value} {U U' : Nat → Nat → Value} {F : Nat → Prop} {i j n' : Nat} {xs' : List Value} {v' : Value}
/-- the machine's block turned, its lists cut. -/
theorem VOp.all (h : VOp E w ow L V U) (f : Fram (one E.mb) w u) (hB : Blk u.heap E.mb (mbc E V' L') 89) (hV : ∀ i, vmI i → OwT w ow (400 + i) (V' i) (vmE i).1 (vmE i).2 (L'.A i).1 (L'.A i).2) (hT : L'.T = L.T) (hh : L'.h = L.h) (hnt : L'.nt ≤ 5) : VOp E u ow L' V' U := by
  have htm := h.tm
  have off : ∀ b, ow b ≠ 400 → ¬ one E.mb b := fun b q1 z => q1 (by have z : b = E.mb := z; rw [z]; exact htm)
  refine ⟨hB, ?_, fun k hk => ?_, fun j hj k hk => ?_, htm, h.tt, hnt, h.dfN f⟩
  · have e : thc L' U = thc L U := by funext j; unfold thc; rw [hh]
    rw [e]
    exact h.t.fram f (off _ (by rw [h.tt]; decide))
  · exact (hV k hk).far f (fun b q _ => off b (by unfold vmI at hk; omega)) (Xt.refl _ _)
  · rw [hT]
    exact (h.u j hj k hk).far f (fun b q _ => off b (by unfold thI at hk; omega)) (Xt.refl _ _)
/-- a thread's row turned, its lists cut. -/
theorem VOp.allT (h : VOp E w ow L V U) (f : Fram (one E.tb) w u) (hB : Blk u.heap E.tb (rws (thc L' U') (List.range 5)) 269) (hU : ∀ j, j < 5 → ∀ i, thI i → OwT w ow (420 + 10 * i + j) (U' j i) (thE i).1 (thE i).2 (L'.T j i).1 (L'.T j i).2) (hA : L'.A = L.A) (hnt : L'.nt = L.nt) (hfu : L'.fu = L.fu) (hen : L'.en = L.en) : VOp E u ow L' V U' := by
  have htt := h.tt
  have off : ∀ b, ow b ≠ 409 → ¬ one E.tb b := fun b q1 z => q1 (by have z : b = E.tb := z; rw [z]; exact htt)
  refine ⟨?_, hB, fun k hk => ?_, fun j hj k hk => ?_, h.tm, htt, by rw [hnt]; exact h.nt, h.dfN f⟩
  · have e : mbc E V L' = mbc E V L := by unfold mbc; rw [hnt, hfu, hen]
    rw [e]
    exact h.m.fram f (off _ (by rw [h.tm]; decide))
  · rw [hA]
    exact (h.a k hk).far f (fun b q _ => off b (by unfold vmI at hk; omega)) (Xt.refl _ _)
  · exact (hU j hj k hk).far f (fun b q _ => off b (by unfold thI at hk; omega)) (Xt.refl _ _)
/-- list i grown. -/
theorem VOp.growA (h : VOp E w ow L V U) (hi : vmI i) (hon : Own u1.heap v' (vmE i).1 (vmE i).2 n' xs') (G1 : Fram (own1 (V i)) w u1) (hnb : nob (V i) v' w) (fr : Fram (one E.mb) u1 u2) (hB : Blk u2.heap E.mb (mbc E (up1 V i v') L) 89) :
    ∃ ow', Xt w ow ow' ∧ Fram (tg ow vmT) w u2 ∧ VOp E u2 ow' { L with A := up1 L.A i (n', xs') } (up1 V i v') U := by
  have ha := h.a i hi
  have htm := h.tm
  have hml := h.m.lt
  have h1 := G1.size
  have h2 := fr.size
  have hvc : ∀ b, v'.ownBlock = some b → b ≠ E.mb := fun b y e => by
    rcases hnb b y with z | z
    · have := ha.t b z
      rw [e, htm] at this
      unfold vmI at hi
      omega
    · omega
  have k1 := ha.grow hon hnb h1
  have f2 : Fram (fun b => b = E.mb ∨ ow b = 400 + i) w u2 := (G1.mono (fun b hb y => .inr (ha.t b y))).trans' fr (fun b _ y => .inl y)
  refine ⟨cut66 u2 (nw ow w.heap.size (400 + i)), fun b hb => by rw [cut66_xt _ _ b (by omega), nw_old (by omega)], f2.mono (fun b hb z => ?_), ?_⟩
  · show vmT (ow b)
    rcases z with z | z
    · rw [z, htm]; unfold vmT; omega
    · rw [z]; unfold vmI at hi; unfold vmT; omega
  · refine h.fld hi (fun b hb => by rw [cut66_xt _ _ b (by omega), nw_old (by omega)]) f2 hB ?_ (fun k hk => up1_ne hk) rfl rfl h.nt (cut66_df _ _)
    show OwT _ _ _ _ _ _ (up1 L.A i (n', xs') i).1 (up1 L.A i (n', xs') i).2
    rw [up1_self]
    exact OwT.cut ⟨k1.o.fram fr (fun b y z => hvc b y z), k1.t⟩
/-- list i written in place. -/
theorem VOp.wrA (h : VOp E w ow L V U) (hi : vmI i) (f : Fram (fun b => ow b = 400 + i) w u) (hO : OwT u ow (400 + i) (V i) (vmE i).1 (vmE i).2 n' xs') : VOp E u ow { L with A := up1 L.A i (n', xs') } V U := by
  have htm := h.tm
  have hii : 400 + i ≠ 400 := by unfold vmI at hi; omega
  have k := h.fld (L' := { L with A := up1 L.A i (n', xs') }) (v' := V i) hi (Xt.refl _ _) (f.mono (fun b _ z => .inr z)) (by rw [up1_id]; exact h.m.fram f (fun z => by rw [htm] at z; omega)) (by
    show OwT _ _ _ _ _ _ (up1 L.A i (n', xs') i).1 (up1 L.A i (n', xs') i).2
    rw [up1_self]
    exact hO) (fun k hk => up1_ne hk) rfl rfl h.nt (h.dfN f)
  rw [up1_id] at k
  exact k
/-- a thread's list grown. -/
theorem VOp.growT (h : VOp E w ow L V U) (hj : j < 5) (hi : thI i) (hon : Own u1.heap v' (thE i).1 (thE i).2 n' xs') (G1 : Fram (own1 (U j i)) w u1) (hnb : nob (U j i) v' w) (fr : Fram (one E.tb) u1 u2) (hB : Blk u2.heap E.tb (rws (thc L (up1 U j (up1 (U j) i v'))) (List.range 5)) 269) :
    ∃ ow', Xt w ow ow' ∧ Fram (tg ow vmT) w u2 ∧ VOp E u2 ow' { L with T := up1 L.T j (up1 (L.T j) i (n', xs')) } V (up1 U j (up1 (U j) i v')) := by
  have ha := h.u j hj i hi
  have htt := h.tt
  have hml := h.t.lt
  have h1 := G1.size
  have h2 := fr.size
  have hvc : ∀ b, v'.ownBlock = some b → b ≠ E.tb := fun b y e => by
    rcases hnb b y with z | z
    · have := ha.t b z
      rw [e, htt] at this
      unfold thI at hi
      omega
    · omega
  have k1 := ha.grow hon hnb h1
  have f2 : Fram (fun b => b = E.tb ∨ ow b = 420 + 10 * i + j) w u2 := (G1.mono (fun b hb y => .inr (ha.t b y))).trans' fr (fun b _ y => .inl y)
  refine ⟨cut66 u2 (nw ow w.heap.size (420 + 10 * i + j)), fun b hb => by rw [cut66_xt _ _ b (by omega), nw_old (by omega)], f2.mono (fun b hb z => ?_), ?_⟩
  · show vmT (ow b)
    rcases z with z | z
    · rw [z, htt]; unfold vmT; omega
    · rw [z]; unfold thI at hi; unfold vmT; omega
  · refine h.row hj hi (fun b hb => by rw [cut66_xt _ _ b (by omega), nw_old (by omega)]) f2 hB ?_ rfl (fun k l hk => ?_) rfl rfl rfl (cut66_df _ _)
    · show OwT _ _ _ _ _ _ (up1 L.T j (up1 (L.T j) i (n', xs')) j i).1 (up1 L.T j (up1 (L.T j) i (n', xs')) j i).2
      rw [up1_self, up1_self]
      exact OwT.cut ⟨k1.o.fram fr (fun b y z => hvc b y z), k1.t⟩
    · show up1 L.T j (up1 (L.T j) i (n', xs')) k l = L.T k l
      by_cases hkj : k = j
      · subst hkj
        rw [up1_self, up1_ne (hk rfl)]
      · rw [up1_ne hkj]
/-- a thread's list written in place. -/
theorem VOp.wrT (h : VOp E w ow L V U) (hj : j < 5) (hi : thI i) (f : Fram (fun b => ow b = 420 + 10 * i + j) w u) (hO : OwT u ow (420 + 10 * i + j) (U j i) (thE i).1 (thE i).2 n' xs') : VOp E u ow { L with T := up1 L.T j (up1 (L.T j) i (n', xs')) } V U := by
  have htt := h.tt
  have hii : 420 + 10 * i + j ≠ 409 := by unfold thI at hi; omega
  have k := h.row (L' := { L with T := up1 L.T j (up1 (L.T j) i (n', xs')) }) (v' := U j i) hj hi (Xt.refl _ _) (f.mono (fun b _ z => .inr z)) (by rw [up1_id, up1_id]; exact h.t.fram f (fun z => by rw [htt] at z; omega)) (by
    show OwT _ _ _ _ _ _ (up1 L.T j (up1 (L.T j) i (n', xs')) j i).1 (up1 L.T j (up1 (L.T j) i (n', xs')) j i).2
    rw [up1_self, up1_self]
    exact hO) rfl (fun k l hk => by
    show up1 L.T j (up1 (L.T j) i (n', xs')) k l = L.T k l
    by_cases hkj : k = j
    · subst hkj
      rw [up1_self, up1_ne (hk rfl)]
    · rw [up1_ne hkj]) rfl rfl rfl (h.dfN f)
  rw [up1_id, up1_id] at k
  exact k
end
end Go.Proofs.Qxb6500568aGreatDoor
