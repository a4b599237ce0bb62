import Derived.Test.Qxb6500568aGreatDoorYq
import Derived.Test.Qxb6500568aGreatDoorGl
/- The interpreter: laws for apply and step. -/
namespace Go.Proofs.Qxb6500568aGreatDoor
open Ieee
set_option linter.unusedVariables false
set_option linter.unusedSimpArgs false
set_option linter.unusedSectionVars false
section
variable {P : Program} {n : Nat} {e : Nat → Option Value} {w : World}
theorem ro_sliceAH {t len et k b o h : Nat} {q : IntKind} {hi : Int} {x z : Operand} (hx : evO n e x = some (.pointer (some ⟨b, o, none⟩))) (hz : evO n e z = some (.int q hi)) (ht : arrB P t len et k = true)
    (hh : hi = (h : Int)) (h2 : h ≤ len) : RO P n e w (.slice t x none (some z) none) (.slice (some ⟨b, o, none⟩) h len) := by
  intro ds dst ty ps af g
  obtain ⟨t1, t2⟩ := arrB_spec ht
  subst hh
  simp [execOp, evO_eval hx, evO_eval hz, Instr.sliceAt, run_underlying t1, Instr.sureAddr, Instr.sliceBounds, Instr.sliceBound, asIntOf, h2, run_sizeOf t2, addr_add, Addr.add]
theorem ro_sliceALH {t len et k b o l h : Nat} {q q' : IntKind} {lo hi : Int} {x y z : Operand} (hx : evO n e x = some (.pointer (some ⟨b, o, none⟩))) (hy : evO n e y = some (.int q lo)) (hz : evO n e z = some (.int q' hi)) (ht : arrB P t len et k = true)
    (hl : lo = (l : Int)) (hh : hi = (h : Int)) (h1 : l ≤ h) (h2 : h ≤ len) (h3 : l < len) : RO P n e w (.slice t x (some y) (some z) none) (.slice (some ⟨b, o + l * k, none⟩) (h - l) (len - l)) := by
  intro ds dst ty ps af g
  obtain ⟨t1, t2⟩ := arrB_spec ht
  subst hl hh
  have hlc : l ≤ len := by omega
  have hne : ¬ len = l := by omega
  simp [execOp, evO_eval hx, evO_eval hy, evO_eval hz, Instr.sliceAt, run_underlying t1, Instr.sureAddr, Instr.sliceBounds, Instr.sliceBound, asIntOf, h1, h2, hlc, hne, run_sizeOf t2, addr_add]
end

section
variable {s : IS} {G : Arena} {root : Nat} {np : Value} {tb rb : Nat} {nv : Value} {w w1 u1 u2 : World} {ow : Nat → Nat} {β τ : List Nat} {m : Nat}
theorem drop_drop (hc : s.cur < s.ths.length) (j k : Nat) : idrop j (idrop k s) = idrop (k + j) s := by
  unfold idrop
  rw [th_setT hc, setT_setT]
  simp [List.drop_drop]
theorem drop_zero (hc : s.cur < s.ths.length) : idrop 0 s = s := setT_self hc
theorem top_drop (hc : s.cur < s.ths.length) (i k : Nat) : (idrop k s).top i = s.top (k + i) := by
  unfold IS.top idrop
  rw [th_setT hc, List.getD_eq_getElem?_getD, List.getElem?_drop, List.getD_eq_getElem?_getD]
theorem drop_vals (hc : s.cur < s.ths.length) (k : Nat) : (idrop k s).th.vals = s.th.vals.drop k := by unfold idrop; rw [th_setT hc]
/-- the arguments' array, r of x not yet taken. -/
def argL (l : List PV) (x r : Nat) : List PV := List.replicate r vNil ++ (l.take (x - r)).reverse ++ List.replicate (3 - x) vNil
theorem argL_len {l : List PV} {x r : Nat} (hr : r ≤ x) (hx : x ≤ 3) (hl : x ≤ l.length) : (argL l x r).length = 3 := by
  unfold argL
  simp only [List.length_append, List.length_replicate, List.length_reverse, List.length_take]; omega
theorem argL_set {l : List PV} {x r : Nat} (hr : r + 1 ≤ x) (hl : x ≤ l.length) : (argL l x (r + 1)).set r (l.getD (x - (r + 1)) vNil) = argL l x r := by
  unfold argL
  have h1 : (l.take (x - r)).reverse = l.getD (x - (r + 1)) vNil :: (l.take (x - (r + 1))).reverse := by
    rw [show x - r = (x - (r + 1)) + 1 by omega, List.take_add_one, List.reverse_append]
    have : l[x - (r + 1)]? = some (l.getD (x - (r + 1)) vNil) := by rw [List.getD_eq_getElem?_getD, List.getElem?_eq_getElem (by omega)]; rfl
    rw [this]; rfl
  rw [h1, List.replicate_succ', List.append_assoc, List.append_assoc, List.append_assoc, List.set_append_right _ _ (by simp)]
  simp
theorem argL_zero {l : List PV} {x : Nat} : argL l x 0 = (l.take x).reverse ++ List.replicate (3 - x) vNil := by unfold argL; simp

theorem RM.next68' {n : Nat} {k : PV} (hR : RM G root np tb rb nv w ow β τ m s) (hn : n < s.tabs.length) (hk : wfV k = true) (hN : W64 k.N) : Ret Tryz.prog 68 [ptr tb, i64c n, pv k] w (fun r w' => r = .tuple #[pv ((tNext (s.tabs.getD n []) k).getD (vNil, vNil)).1, pv ((tNext (s.tabs.getD n []) k).getD (vNil, vNil)).2, icv (if (tNext (s.tabs.getD n []) k).isSome then 0 else 7)] ∧ Fram none' w w') :=
  (hR.next68 hn hk hN).mono fun r w' h => by
    refine ⟨?_, h.2⟩
    have h1 := h.1
    unfold nxR at h1
    split at h1
    · rename_i p hp; rw [hp]; exact h1
    · rename_i hp; rw [hp]; exact h1
/-- a thread's block and place. -/
theorem RM.thAt (h : RM G root np tb rb nv w ow β τ m s) {i : Nat} (hi : i < s.ths.length) : ∃ cv a0 a1 a2 a3 a4 g cap l b tv vv, Blk w.heap rb (rnc np tb nv root cv (.slice (some ⟨g, 0, none⟩) s.ths.length cap) a0 a1 a2 a3 a4 s) 112 ∧ Blk w.heap g l 123 ∧ l[0 + i * 1]? = some (ptr b) ∧ s.ths.length ≤ cap ∧ τ[i]? = some b ∧ ThV w ow i β (s.ths.getD i ITh.zero) b tv vv ∧ ow g = 72 := by
  obtain ⟨cv, hv, a0, a1, a2, a3, a4, h1, h2, h3, h4⟩ := h.r
  have hx : s.ths[i]? = some (s.ths.getD i ITh.zero) := by rw [List.getD_eq_getElem?_getD, List.getElem?_eq_getElem hi]; rfl
  obtain ⟨b, tv, vv, q1, q2⟩ := h.T i _ hx
  obtain ⟨g, cap, l, rfl, hB, k1, k2, k3, k4⟩ := h3.o.pos (by omega)
  refine ⟨cv, a0, a1, a2, a3, a4, g, cap, l, b, tv, vv, h1, hB, ?_, k1, q1, q2, h3.t g rfl⟩
  rw [Nat.zero_add, Nat.mul_one]
  exact own_get k4 (by rw [List.getElem?_map, q1]; rfl)
/-- a thread more. -/
theorem RM.newT (h : RM G root np tb rb nv w ow β τ m s) {cv hv v' a0 a1 a2 a3 a4 : Value} {b fn : Nat} (hX : Blk w.heap rb (rnc np tb nv root cv hv a0 a1 a2 a3 a4 s) 112) (hF : Fram none' w w1) (hb : w.heap.size ≤ b) (hBb : Blk w1.heap b [i64c 1, i64c fn, i64c 0, .slice none 0 0, .slice none 0 0] 126)
    (hon : Own u1.heap v' 123 1 (s.ths.length + 1) (τ.map ptr ++ [ptr b])) (G1 : Fram (own1 hv) w1 u1) (hnb : nob hv v' w1) (f : Fram (one rb) u1 u2) (hB : Blk u2.heap rb (rnc np tb nv root cv v' a0 a1 a2 a3 a4 s) 112) (h5 : s.ths.length < 5) :
    RP G root np tb rb nv w ow β (τ ++ [b]) m { s with ths := s.ths ++ [⟨1, fn, 0, [], []⟩] } u2 := by
  obtain ⟨cv', hv', a0', a1', a2', a3', a4', h1, h2, h3, h4⟩ := h.r
  have hu := (Blk.uniq h1 hX).1
  unfold rnc at hu
  simp only [List.cons.injEq, true_and, and_true] at hu
  obtain ⟨rfl, rfl, rfl, rfl, rfl, rfl, rfl⟩ := hu
  have hw1 := hF.size
  have hu1 := G1.size
  have hu2 := f.size
  have hbl := h1.lt
  have hbl1 := hBb.lt
  have hf : Fram (tg ow (fun t => t = 70 ∨ t = 72)) w u2 := ((hF.wide (G := tg ow (fun t => t = 70 ∨ t = 72))).trans' G1 (fun c hc q => .inr (h3.t c q))).trans' f (fun c _ q => by have q : c = rb := q; show ow c = 70 ∨ _; rw [q]; exact .inl h.t70)
  have hE : Xt w ow (cut66 u2 (nw (ot ow b (75 + s.ths.length)) w1.heap.size 72)) := fun c hc => by rw [cut66_xt _ _ c (by omega), nw_old (by omega)]; exact ot_old (by omega)
  have hn : ∀ {c t : Nat}, ow c = t → t ≠ 70 → t ≠ 72 → ¬ tg ow (fun t => t = 70 ∨ t = 72) c := fun {c t} e q1 q2 z => by
    have z : ow c = 70 ∨ ow c = 72 := z
    omega
  have htb : cut66 u2 (nw (ot ow b (75 + s.ths.length)) w1.heap.size 72) b = 75 + s.ths.length := by rw [cut66_xt _ _ b (by omega), nw_old (by omega)]; exact ot_self _ _ _
  have hlen : (s.ths ++ [(⟨1, fn, 0, [], []⟩ : ITh)]).length = s.ths.length + 1 := by simp
  have hmem : ∀ x ∈ s.ths ++ [(⟨1, fn, 0, [], []⟩ : ITh)], x ∈ s.ths ∨ x = ⟨1, fn, 0, [], []⟩ := fun x hx => by simpa using hx
  have htl := h.tl
  refine ⟨_, hE, hf.mono (fun b _ q => by have q : ow b = 70 ∨ ow b = 72 := q; show cmT (ow b); unfold cmT; omega), ⟨⟨cv', v', a0', a1', a2', a3', a4', hB, h2.far hf (fun b q l => hn q (by omega) (by omega)) hE, ?_, h4⟩, by rw [hE _ hbl]; exact h.t70, fun i x hx => ?_, by show (τ ++ [b]).length = (s.ths ++ [_]).length; simp [htl], by show (s.ths ++ [_]).length ≤ 5; rw [hlen]; omega, fun k z hz => ?_, h.el, h.up, fun x hx => ?_, h.ce, h.M.far hf (fun b q l => hn rfl (by unfold mtag at q; omega) (by unfold mtag at q; omega)) hE, ?_, cut66_df _ _, by show s.cur < (s.ths ++ [_]).length; rw [hlen]; have := h.cl; omega, h.sk, fun x hx => ?_, h.fu⟩⟩
  · have k0 : OwT w1 (ot ow b (75 + s.ths.length)) 72 hv' 123 1 s.ths.length (τ.map ptr) := h3.far hF (fun _ _ _ q => q) (fun c hc => ot_old (by omega))
    have k1 := k0.grow hon hnb hu1
    have k2 := (k1.far f (fun c q _ z => by
      have z : c = rb := z
      rw [z, nw_old (by omega), ot_old (by omega), h.t70] at q; omega) (Xt.refl _ _)).cut
    show OwT u2 _ 72 v' 123 1 (s.ths ++ [_]).length ((τ ++ [b]).map ptr)
    rw [hlen, List.map_append]
    exact k2
  · have hx : (s.ths ++ [(⟨1, fn, 0, [], []⟩ : ITh)])[i]? = some x := hx
    rw [List.getElem?_append] at hx
    split at hx
    · rename_i hi
      obtain ⟨b', tv, vv, q1, q2⟩ := h.T i x hx
      exact ⟨b', tv, vv, by rw [List.getElem?_append_left (by omega)]; exact q1, q2.far hf (fun b q l => hn rfl (by unfold thT at q; omega) (by unfold thT at q; omega)) hE⟩
    · rename_i hi
      have hi0 : i - s.ths.length = 0 := by have := (List.getElem?_eq_some_iff.1 hx).1; simp at this; omega
      rw [hi0] at hx
      simp at hx
      subst hx
      have hil : i = s.ths.length := by omega
      subst hil
      refine ⟨b, .slice none 0 0, .slice none 0 0, by rw [← htl, List.getElem?_append_right (Nat.le_refl _)]; simp, ⟨?_, htb, OwT.nil _ _ _ _ _, OwT.nil _ _ _ _ _⟩⟩
      have hb1 := G1.blkF hBb (fun q => by have := h3.o.lt q; omega)
      exact f.blkF hb1 (fun q => by have q : b = rb := q; omega)
  · obtain ⟨b, q1, q2, q3⟩ := h.E k z hz
    exact ⟨b, q1, q2.fram hf (hn q3 (by omega) (by omega)), by rw [hE b q2.lt]; exact q3⟩
  · rcases hmem x hx with hx | rfl
    · exact h.te x hx
    · intro t ht; cases ht
  · obtain ⟨Gp, q1, q2⟩ := h.N
    exact ⟨Gp, q1.far hf (fun b q l => hn q (by omega) (by omega)) hE, q2⟩
  · rcases hmem x hx with hx | rfl
    · exact h.bd x hx
    · exact ⟨Nat.zero_le _, Nat.zero_le _⟩
end
/-- what a call needs, behind the arguments. -/
structure ApP (G : Arena) (root : Nat) (s : IS) : Prop where
  rt : RtP s
  cl : ∀ c ∈ s.clos, CLI G root s.envs.length c
  dp : ∀ x ∈ s.ths, x.depth ≤ 8
  st : s.th.st = 4
  sk : s.stack.length + 1 ≤ s.ths.length
  c0 : s.cur = 0 ∨ s.stack ≠ []
  f1 : ∀ x ∈ s.ths, x.st = 1 → x.fn < s.clos.length
  fi : s.first < 100
  out : s.out.length ≤ 200
  nc : s.clos.length ≤ 24
  nt : s.ths.length ≤ 5
  nh : s.tabs.length ≤ 12
end Go.Proofs.Qxb6500568aGreatDoor
