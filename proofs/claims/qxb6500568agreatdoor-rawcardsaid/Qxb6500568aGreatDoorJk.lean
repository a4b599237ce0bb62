import Derived.Test.Qxb6500568aGreatDoorJj
import Derived.Test.Qxb6500568aGreatDoorJg
import Derived.Test.Qxb6500568aGreatDoorYz
import Derived.Test.Qxb6500568aGreatDoorVc
/- The compiler at rest; the image of a text. -/
namespace Go.Proofs.Qxb6500568aGreatDoor
open Ieee
set_option linter.unusedVariables false
set_option linter.unusedSimpArgs false
set_option linter.unusedSectionVars false

def zE (cb gb : Nat) (sp dp bv : Value) : ZEnv := ⟨cb, gb, sp, dp, .slice none 0 0, bv, [], fun _ => 0⟩
/-- the functions' states of the text that was compiled last. -/
def zP (cb gb : Nat) (t : Tr) : ZEnv := ⟨cb, gb, i64c 0, i64c 0, i64c 0, i64c 0, [], paF (paL t 0)⟩
def CkH (o : Option (Tr × Nat)) (npv : Value) (n0 : Nat) : Prop := match o with
  | none => npv = i64c 0 ∧ n0 = 0
  | some (t, k) => TrOK t k ∧ ndT t ≤ 300 ∧ npv = i64c (k + 1) ∧ n0 = (img (progF t (k + 1))).length
def CkF (cb gb : Nat) (w : World) (ow : Nat → Nat) (o : Option (Tr × Nat)) (j : Nat) (r : ZRow) (m : ZFn) : Prop := ∀ t k, o = some (t, k) → j ≤ k → FnO (zP cb gb t) w ow (progF t (k + 1)) j r m ∧ m.code = (fsAt (progF t (k + 1)) j).code ∧ m.loc.length = (fsAt (progF t (k + 1)) j).np
/-- the compiler at rest. -/
structure CpR (w : World) (ow : Nat → Nat) (cb : Nat) (sp dp : Value) : Prop where
  ex : ∃ gb bv npv n0 xs0 R o, Blk w.heap cb [sp, dp, .slice none 0 0, .slice (some ⟨gb, 0, none⟩) 13 13, npv, bv] 94 ∧ ow gb = 191 ∧ OwT w ow 302 bv 5 1 n0 xs0 ∧ R.length = 13 ∧ Blk w.heap gb (rws fnc R) 199 ∧ CkH o npv n0 ∧ ∀ j r, R[j]? = some r → ∃ m, FnM (zE cb gb sp dp bv) w ow j r m ∧ m.lps = [] ∧ CkF cb gb w ow o j r m
  tc : ow cb = 190
def imT (t : Nat) : Prop := syT t ∨ cpT t ∨ t = 302
section
variable {E E' : ZEnv} {w u w' : World} {ow ow' : Nat → Nat} {O : List Nat} {S : Fns} {F : Nat → Prop} {j : Nat} {r : ZRow} {m : ZFn}
theorem FnM.env (h : FnM E w ow j r m) (hl : m.lps = []) : FnM E' w ow j r m := by
  obtain ⟨rows, q1, q2⟩ := h.lps
  refine ⟨h.loc, h.ups, h.ks, h.code, rows, q1, ?_⟩
  rw [hl] at q2 ⊢
  exact q2
theorem CpR.far {cb : Nat} {sp dp : Value} (h : CpR w ow cb sp dp) (f : Fram F w w') (hn : ∀ b, cpT (ow b) ∨ ow b = 301 ∨ ow b = 302 → b < w.heap.size → ¬ F b) (hE : Xt w ow ow') : CpR w' ow' cb sp dp := by
  obtain ⟨gb, bv, npv, n0, xs0, R, o, h1, h2, h3, h4, h5, h7, h6⟩ := h.ex
  have htc := h.tc
  refine ⟨⟨gb, bv, npv, n0, xs0, R, o, h1.fram f (hn _ (.inl (by rw [htc]; unfold cpT; omega)) h1.lt), by rw [hE _ h5.lt]; exact h2, h3.far f (fun b q l => hn b (.inr (.inr q)) l) hE, h4, h5.fram f (hn _ (.inl (by rw [h2]; unfold cpT; omega)) h5.lt), h7, fun j r hr => ?_⟩, by rw [hE _ h1.lt]; exact htc⟩
  obtain ⟨m, k1, k2, k3⟩ := h6 j r hr
  have hj := (List.getElem?_eq_some_iff.1 hr).1
  exact ⟨m, k1.far f (fun b z l => hn b (z.elim (fun z => .inl (fnT_cp (by omega) z)) (fun z => .inr (.inl z))) l) hE, k2, fun t k ho hk => by
    obtain ⟨q1, q2⟩ := k3 t k ho hk
    exact ⟨q1.far f (fun b z l => hn b (z.elim (fun z => .inl (fnT_cp (by omega) z)) (fun z => .inr (.inl z))) l) hE, q2⟩⟩
/-- the compiler set out. -/
theorem CM.start {Z : ZFn → ZRow → Nat → Prop} {R : List ZRow} {Gp : List (Nd × Nat)} (hC : Blk u.heap E.cb [E.sp, E.dp, E.nv, .slice (some ⟨E.gb, 0, none⟩) 13 13, i64c 0, E.bv] 94) (f : Fram (one E.cb) w u) (htc : ow E.cb = 190) (hta : ow E.gb = 191) (hN : OwT w ow 67 E.nv 148 8 E.G.length (rws ndc Gp)) (hG : Gp.map Prod.fst = E.G) (h13 : R.length = 13) (hB : Blk w.heap E.gb (rws fnc R) 199) (hall : ∀ j r, R[j]? = some r → ∃ m, FnM E' w ow j r m ∧ m.lps = [] ∧ Z m r j) (hd : ∀ b, w.heap.size ≤ b → ow b = 66) : CM E u ow [] S [] := by
  have hn : ∀ b, ow b ≠ 190 → ¬ one E.cb b := fun b q z => q (by have z : b = E.cb := z; rw [z]; exact htc)
  refine ⟨hC, htc, hta, ⟨Gp, hN.far f (fun b q _ => hn b (by omega)) (Xt.refl _ _), hG⟩, ⟨R, h13, hB.fram f (hn _ (by rw [hta]; decide)), fun j r hr => ?_⟩, List.nodup_nil, (fun f hf => by cases hf), fun b hb => hd b (by have := f.size; omega)⟩
  obtain ⟨m, k1, k2, -⟩ := hall j r hr
  have hj := (List.getElem?_eq_some_iff.1 hr).1
  exact ⟨m, (k1.env k2).far f (fun b q _ => hn b (by unfold fnT at q; omega)) (Xt.refl _ _), (fun q => by cases q), (fun f hf => by cases hf), fun _ => ⟨k2, fun q => by cases q⟩⟩
/-- the nodes let go. -/
theorem CM.drop (h : CM E w ow O S []) (f : Fram (one E.cb) w u) (hC : Blk u.heap E.cb [E.sp, E.dp, .slice none 0 0, .slice (some ⟨E.gb, 0, none⟩) 13 13, i64c (mx O), E.bv] 94) : CM { E with nv := .slice none 0 0, G := [] } u ow O S [] := by
  have htc := h.tc
  have hn : ∀ b, ow b ≠ 190 → ¬ one E.cb b := fun b q z => q (by have z : b = E.cb := z; rw [z]; exact htc)
  obtain ⟨R, h1, h2, h3⟩ := h.F
  refine ⟨hC, h.tc, h.ta, ⟨[], OwT.nil _ _ _ _ _, rfl⟩, ⟨R, h1, h2.fram f (hn _ (by rw [h.ta]; decide)), fun j r hr => ?_⟩, h.un, h.mem, fun b hb => h.df b (by have := f.size; omega)⟩
  obtain ⟨m, q⟩ := h3 j r hr
  have hj := (List.getElem?_eq_some_iff.1 hr).1
  have q1 := q.far f (fun b z _ => hn b (by unfold fnT at z; omega)) (Xt.refl _ _)
  obtain ⟨i1, i2⟩ := q1.i (fun f hf => by cases hf)
  refine ⟨m, q1.k.env i1, fun ho => ?_, (fun f hf => by cases hf), fun _ => ⟨i1, i2⟩⟩
  have o := q1.o ho
  exact ⟨o.c, o.par, o.np, o.ns, o.ups, o.ks, o.nums, o.strs⟩
theorem FnO.env (h : FnO E w ow S j r m) (h1 : E'.cb = E.cb) (h2 : E'.gb = E.gb) (h3 : E'.pa = E.pa) : FnO E' w ow S j r m :=
  ⟨by rw [h1]; exact h.c, by rw [h.par]; unfold parV fptr; rw [h2, h3], h.np, h.ns, h.ups, h.ks, h.nums, h.strs⟩
theorem SyV.far {sb : Nat} (h : SyV w ow sb) (f : Fram F w w') (hn : ∀ b, syT (ow b) → b < w.heap.size → ¬ F b) (hE : Xt w ow ow') : SyV w' ow' sb := by
  obtain ⟨np, V, N, n0, xs0, n1, xs1, h1, h2, h3, h4, h5⟩ := h
  exact ⟨np, V, N, n0, xs0, n1, xs1, h1.fram f (hn _ (.inl h2) h1.lt), by rw [hE _ h1.lt]; exact h2, h3.far f (fun b q l => hn b (.inr (.inl q)) l) hE, h4.far f (fun b q l => hn b (.inr (.inr q)) l) hE, h5⟩
end
theorem mx_range : ∀ (k s : Nat), mx (List.range' s (k + 1)) = s + k + 1
  | 0, s => by
    show max 0 (s + 1) = _
    omega
  | k + 1, s => by
    have h := mx_range k (s + 1)
    show max (mx (List.range' (s + 1) (k + 1))) (s + 1) = _
    rw [h]
    omega
section
variable {t : Tr} {k : Nat}
theorem nums0 (hT : TrOK t k) : 0 :: numsT t = List.range' 0 (k + 1) := by rw [hT.nums]; rfl
theorem CM.rest {E : ZEnv} {w : World} {ow : Nat → Nat} {O : List Nat} {S : Fns} (h : CM E w ow O S []) (hnv : E.nv = .slice none 0 0) {n0 : Nat} {xs0 : List Value} (hV : OwT w ow 302 E.bv 5 1 n0 xs0) (hT : TrOK t k) (h300 : ndT t ≤ 300) (hO : O = 0 :: numsT t) (hS : S = progF t (k + 1)) (hpa : E.pa = paF (paL t 0)) (hn0 : n0 = (img S).length) : CpR w ow E.cb E.sp E.dp := by
  obtain ⟨R, h1, h2, h3⟩ := h.F
  have hn := nums0 hT
  refine ⟨⟨E.gb, E.bv, _, n0, xs0, R, some (t, k), by rw [← hnv]; exact h.cb, h.ta, hV, h1, h2, ⟨hT, h300, by rw [hO, hn, mx_range, Nat.zero_add], by rw [hn0, hS]⟩, fun j r hr => ?_⟩, h.tc⟩
  obtain ⟨m, q⟩ := h3 j r hr
  obtain ⟨i1, i2⟩ := q.i (fun f hf => by cases hf)
  refine ⟨m, q.k.env i1, i1, fun t' k' ho hk => ?_⟩
  cases ho
  have hj : j ∈ O := by rw [hO, hn, List.mem_range'_1]; omega
  have i3 := i2 hj
  rw [hS] at i3
  have q5 := q.o hj
  rw [hS] at q5
  exact ⟨q5.env rfl rfl hpa.symm, i3⟩
theorem z_at (n j : Nat) : fsAt (List.replicate n FS.zero) j = FS.zero := by
  unfold fsAt
  rw [List.getD_eq_getElem?_getD, List.getElem?_replicate]
  by_cases h : j < n <;> simp [h]
theorem prog_fx {E : ZEnv} (hT : TrOK t k) (h300 : ndT t ≤ 300) (hG : E.G = arena t) : FX E (List.replicate (k + 1) FS.zero) ⟨0, [], [], []⟩ [] (numsT t) (100 * ndT t + 3) := by
  have h12 := hT.k12
  have hn := nums0 hT
  have ht : tot (List.replicate (k + 1) FS.zero) = 0 := by
    unfold tot
    rw [List.map_replicate, show fb FS.zero = 0 from rfl]
    simp
  refine ⟨by refine ⟨?_, ?_, ?_⟩ <;> rw [z_at] <;> rfl, ⟨by show (0 :: numsT t).Nodup; rw [hn]; exact List.nodup_range', fun j hj => ?_⟩, ⟨fun j => ?_, by show (fsAt _ 0).ups = []; rw [z_at]; rfl, (fun p hp => by cases hp), by rw [List.length_replicate]; omega⟩, Nat.zero_le _, rfl, by show tot _ + 3 * 0 + _ ≤ _; rw [ht]; omega, by show 3 * 0 + _ ≤ _; omega, (fun x hx => by cases hx), by rw [hG]; exact ⟨arena_ne t, rfl⟩⟩
  · have hj : j ∈ 0 :: numsT t := hj
    rw [hn, List.mem_range'_1] at hj
    rw [List.length_replicate]
    omega
  · rw [z_at]
    exact ⟨by decide, by decide, by decide, (fun v hv => by cases hv), .nil, 0, by decide, .nil⟩
theorem prog_np (hT : TrOK t k) (h300 : ndT t ≤ 300) : (fsAt (cmp t 0 [(0, [])] 0 0 (List.replicate (k + 1) FS.zero)).2 0).np = 0 ∧ (cmp t 0 [(0, [])] 0 0 (List.replicate (k + 1) FS.zero)).2.length = k + 1 := by
  have hx := prog_fx (E := ⟨0, 0, i64c 0, i64c 0, i64c 0, i64c 0, arena t, fun _ => 0⟩) hT h300 rfl
  have m := mo_all t 0 0 [] [] 0 0 _ hx.ch hx.fit
  have hn := nums0 hT
  have h0 : 0 ∉ numsT t := by
    have : (0 :: numsT t).Nodup := by rw [hn]; exact List.nodup_range'
    exact (List.nodup_cons.1 this).1
  have := (m.mo.ext 0 h0).np
  rw [z_at] at this
  exact ⟨this, by rw [m.mo.len, List.length_replicate]⟩
end
/-- What Image answers. -/
def ImgR (s : Str) (r : Value) : Prop := match prsV s with
  | .inl (e, p) => r = .tuple #[S [], i64c e, i64c p]
  | .inr (t, k) => r = .tuple #[S (img (progF t (k + 1))), i64c 0, i64c 0]
end Go.Proofs.Qxb6500568aGreatDoor
