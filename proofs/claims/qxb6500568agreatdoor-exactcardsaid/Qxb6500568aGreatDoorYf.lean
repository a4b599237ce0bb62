import Derived.Test.Qxb6500568aGreatDoorYe
import Derived.Test.Qxb6500568aGreatDoorVc
import Derived.Test.Qxb6500568aGreatDoorCf
namespace Go.Proofs.Qxb6500568aGreatDoor
open Ieee
set_option linter.unusedVariables false
set_option linter.unusedSimpArgs false
set_option linter.unusedSectionVars false

/-! The interpreter's state in memory. -/

/-- where the variable e lies (β: the blocks of the variables). -/
def epo (β : List Nat) (e : Nat) : Option Addr := if e = 0 then none else (β[e - 1]?).map fun b => ⟨b, 0, none⟩
theorem epo_app {β γ : List Nat} {e : Nat} (h : e ≤ β.length) : epo (β ++ γ) e = epo β e := by
  unfold epo
  by_cases h0 : e = 0
  · rw [if_pos h0, if_pos h0]
  · rw [if_neg h0, if_neg h0, List.getElem?_append_left (by omega)]
theorem epo_last {β : List Nat} {b : Nat} : epo (β ++ [b]) (β.length + 1) = some ⟨b, 0, none⟩ := by
  unfold epo
  rw [if_neg (by omega), Nat.add_sub_cancel, List.getElem?_append_right (Nat.le_refl _)]; simp
theorem epo_pos {β : List Nat} {e b : Nat} (h : β[e]? = some b) : epo β (e + 1) = some ⟨b, 0, none⟩ := by
  unfold epo
  rw [if_neg (by omega), Nat.add_sub_cancel, h]; rfl
/-- o is the variable e's address. -/
def EP (β : List Nat) (e : Nat) (o : Option Addr) : Prop := o = epo β e ∧ e ≤ β.length
theorem EP.app {β : List Nat} {e : Nat} {o : Option Addr} (h : EP β e o) (γ : List Nat) : EP (β ++ γ) e o := ⟨by rw [epo_app h.2]; exact h.1, by rw [List.length_append]; have := h.2; omega⟩
theorem EP.nil (β : List Nat) : EP β 0 none := ⟨rfl, Nat.zero_le _⟩
theorem EP.mk' {β : List Nat} {e : Nat} (h : e ≤ β.length) : EP β e (epo β e) := ⟨rfl, h⟩
theorem EP.new (β : List Nat) (b : Nat) : EP (β ++ [b]) (β.length + 1) (some ⟨b, 0, none⟩) := ⟨epo_last.symm, by simp⟩

def tsc (β : List Nat) (t : Tk) : List Value := [i64c t.k, i64c t.n, i64c t.x, .pointer (epo β t.e)]
theorem tsc_len (β : List Nat) (t : Tk) : (tsc β t).length = 4 := rfl
theorem tsc_one (β : List Nat) (t : Tk) : ∀ u ∈ tsc β t, u.oneCell' = true := by simp [tsc, Value.oneCell', i64c]
def clc (β : List Nat) (c : Nat × Nat) : List Value := [i64c c.1, .pointer (epo β c.2)]
theorem clc_len (β : List Nat) (c : Nat × Nat) : (clc β c).length = 2 := rfl
theorem clc_one (β : List Nat) (c : Nat × Nat) : ∀ u ∈ clc β c, u.oneCell' = true := by simp [clc, Value.oneCell', i64c]
def evc (β : List Nat) (z : Env) : List Value := [S z.name, i64c z.v.T, u64c z.v.N, S z.v.S, .pointer (epo β z.up)]
def rnc (np : Value) (tb : Nat) (nv : Value) (root : Nat) (cv hv a0 a1 a2 a3 a4 : Value) (s : IS) : List Value :=
  [np, ptr tb, nv, i64c root, cv, hv, a0, a1, a2, a3, a4, i64c s.stack.length, i64c s.cur, i64c s.fuel, i64c s.first, S s.out, .bool s.done, i64c s.ans.E, i64c s.ans.N, i64c s.ans.M, S s.ans.S, S s.ans.T]

/-- thread i, in its block. -/
structure ThV (w : World) (ow : Nat → Nat) (i : Nat) (β : List Nat) (x : ITh) (b : Nat) (tv vv : Value) : Prop where
  k : Blk w.heap b [i64c x.st, i64c x.fn, i64c x.depth, tv, vv] 126
  t : ow b = 75 + i
  ts : OwT w ow (80 + i) tv 161 4 x.tasks.length (rws (tsc β) x.tasks.reverse)
  vs : OwT w ow (85 + i) vv 119 3 x.vals.length (rws pvc x.vals.reverse)
structure RM (G : Arena) (root : Nat) (np : Value) (tb rb : Nat) (nv : Value) (w : World) (ow : Nat → Nat) (β τ : List Nat) (m : Nat) (s : IS) : Prop where
  r : ∃ cv hv a0 a1 a2 a3 a4, Blk w.heap rb (rnc np tb nv root cv hv a0 a1 a2 a3 a4 s) 112 ∧ OwT w ow 71 cv 122 2 s.clos.length (rws (clc β) s.clos) ∧ OwT w ow 72 hv 123 1 s.ths.length (τ.map ptr) ∧ ∀ (j : Nat) (c : Nat), s.stack.reverse[j]? = some c → [a0, a1, a2, a3, a4][j]? = some (i64c c)
  t70 : ow rb = 70
  T : ∀ (i : Nat) (x : ITh), s.ths[i]? = some x → ∃ b tv vv, τ[i]? = some b ∧ ThV w ow i β x b tv vv
  tl : τ.length = s.ths.length
  t5 : s.ths.length ≤ 5
  E : ∀ (k : Nat) (z : Env), s.envs[k]? = some z → ∃ b, β[k]? = some b ∧ Blk w.heap b (evc β z) 159 ∧ ow b = 1000 + k
  el : β.length = s.envs.length
  up : ∀ (k : Nat) (z : Env), s.envs[k]? = some z → z.up ≤ k
  te : ∀ x ∈ s.ths, ∀ t ∈ x.tasks, t.e ≤ s.envs.length
  ce : ∀ c ∈ s.clos, c.2 ≤ s.envs.length
  M : MTV w ow np tb s.tabs
  N : ∃ Gp, OwT w ow 67 nv 148 8 G.length (rws ndc Gp) ∧ Gp.map Prod.fst = G
  df : ∀ b, w.heap.size ≤ b → ow b = 66
  cl : s.cur < s.ths.length
  sk : s.stack.length ≤ 5
  bd : ∀ x ∈ s.ths, x.tasks.length ≤ m ∧ x.vals.length ≤ m
  fu : s.fuel < 9223372036854775808
/-- what the interpreter may write. -/
def cmT (t : Nat) : Prop := (70 ≤ t ∧ t ≤ 72) ∨ (75 ≤ t ∧ t ≤ 89) ∨ 1000 ≤ t ∨ mtag t
/-- what thread c may write. -/
def thT (c t : Nat) : Prop := t = 75 + c ∨ t = 80 + c ∨ t = 85 + c
def cut66 (w : World) (ow : Nat → Nat) : Nat → Nat := fun b => if b < w.heap.size then ow b else 66
theorem cut66_xt (w : World) (ow : Nat → Nat) : Xt w ow (cut66 w ow) := fun b hb => if_pos hb
theorem cut66_df (w : World) (ow : Nat → Nat) : ∀ b, w.heap.size ≤ b → cut66 w ow b = 66 := fun b hb => if_neg (by omega)
def ot (ow : Nat → Nat) (b t : Nat) : Nat → Nat := fun c => if c = b then t else ow c
theorem ot_self (ow : Nat → Nat) (b t : Nat) : ot ow b t b = t := if_pos rfl
theorem ot_old {ow : Nat → Nat} {b t c : Nat} (h : c ≠ b) : ot ow b t c = ow c := if_neg h

theorem Xt.ot {w : World} {ow0 ow : Nat → Nat} {b t : Nat} (h : Xt w ow0 ow) (hb : w.heap.size ≤ b) : Xt w ow0 (Go.Proofs.Qxb6500568aGreatDoor.ot ow b t) := fun c hc => by rw [ot_old (by omega)]; exact h c hc

section
variable {G : Arena} {root : Nat} {np : Value} {tb rb : Nat} {nv : Value} {w w' : World} {ow ow' : Nat → Nat} {β τ : List Nat} {m : Nat} {s : IS} {F : Nat → Prop} {i : Nat} {x : ITh} {b : Nat} {tv vv : Value}

theorem OwT.cut {tag : Nat} {v : Value} {e k n : Nat} {xs : List Value} (h : OwT w ow tag v e k n xs) : OwT w (cut66 w ow) tag v e k n xs := h.far (Fram.refl none' _) (fun _ _ _ q => q) (cut66_xt _ _)
theorem ThV.far (h : ThV w ow i β x b tv vv) (f : Fram F w w') (hn : ∀ b, thT i (ow b) → b < w.heap.size → ¬ F b) (hE : Xt w ow ow') : ThV w' ow' i β x b tv vv :=
  ⟨h.k.fram f (hn b (.inl h.t) h.k.lt), by rw [hE b h.k.lt]; exact h.t, h.ts.far f (fun b q l => hn b (.inr (.inl q)) l) hE, h.vs.far f (fun b q l => hn b (.inr (.inr q)) l) hE⟩
theorem thT_cm {c t : Nat} (hc : c < 5) (h : thT c t) : cmT t := by unfold thT at h; unfold cmT; omega
/-- over a frame that leaves the interpreter alone. -/
theorem RM.far (h : RM G root np tb rb nv w ow β τ m s) (f : Fram F w w') (hn : ∀ b, cmT (ow b) ∨ ow b = 67 → b < w.heap.size → ¬ F b) (hE : Xt w ow ow') (hd : ∀ b, w'.heap.size ≤ b → ow' b = 66) : RM G root np tb rb nv w' ow' β τ m s := by
  obtain ⟨cv, hv, a0, a1, a2, a3, a4, h1, h2, h3, h4⟩ := h.r
  refine ⟨⟨cv, hv, a0, a1, a2, a3, a4, h1.fram f (hn _ (.inl (by rw [h.t70]; unfold cmT; omega)) h1.lt), h2.far f (fun b q l => hn b (.inl (by rw [q]; unfold cmT; omega)) l) hE, h3.far f (fun b q l => hn b (.inl (by rw [q]; unfold cmT; omega)) l) hE, h4⟩, by rw [hE _ h1.lt]; exact h.t70, fun i x hx => ?_, h.tl, h.t5, fun k z hz => ?_, h.el, h.up, h.te, h.ce, h.M.far f (fun b q l => hn b (.inl (.inr (.inr (.inr q)))) l) hE, ?_, hd, h.cl, h.sk, h.bd, h.fu⟩
  · obtain ⟨b, tv, vv, q1, q2⟩ := h.T i x hx
    have hi := (List.getElem?_eq_some_iff.1 hx).1
    have h5 := h.t5
    exact ⟨b, tv, vv, q1, q2.far f (fun b q l => hn b (.inl (thT_cm (by omega) q)) l) hE⟩
  · obtain ⟨b, q1, q2, q3⟩ := h.E k z hz
    exact ⟨b, q1, q2.fram f (hn b (.inl (by rw [q3]; unfold cmT; omega)) q2.lt), by rw [hE b q2.lt]; exact q3⟩
  · obtain ⟨Gp, q1, q2⟩ := h.N
    exact ⟨Gp, q1.far f (fun b q l => hn b (.inr q) l) hE, q2⟩
theorem RM.dfN (h : RM G root np tb rb nv w ow β τ m s) (f : Fram F w w') : ∀ b, w'.heap.size ≤ b → ow b = 66 := fun b hb => h.df b (by have := f.size; omega)
theorem RM.thruN (h : RM G root np tb rb nv w ow β τ m s) (f : Fram none' w w') : RM G root np tb rb nv w' ow β τ m s := h.far f (fun _ _ _ q => q) (Xt.refl _ _) (h.dfN f)
theorem RM.hbput (h : RM G root np tb rb nv w ow β τ m s) (f : Fram (one b) w w') (ht : ow b = 66 := by assumption) : RM G root np tb rb nv w' ow β τ m s :=
  h.far f (fun c q _ e => by have e : c = b := e; rw [e, ht] at q; unfold cmT mtag at q; omega) (Xt.refl _ _) (h.dfN f)
theorem RM.dr (h : RM G root np tb rb nv w ow β τ m s) {d : Nat} : RM G root np tb rb nv { w with drawn := d } ow β τ m s := h.thruN ((Fram.refl none' _).thenDrew)
theorem RM.up_m (h : RM G root np tb rb nv w ow β τ m s) {m' : Nat} (hm : ∀ x ∈ s.ths, x.tasks.length ≤ m' ∧ x.vals.length ≤ m') : RM G root np tb rb nv w ow β τ m' s :=
  ⟨h.r, h.t70, h.T, h.tl, h.t5, h.E, h.el, h.up, h.te, h.ce, h.M, h.N, h.df, h.cl, h.sk, hm, h.fu⟩
theorem RM.le (h : RM G root np tb rb nv w ow β τ m s) {m' : Nat} (hm : m ≤ m') : RM G root np tb rb nv w ow β τ m' s := h.up_m (fun x hx => by have := h.bd x hx; omega)

/-- the thread at hand, taken out. -/
theorem RM.open (h : RM G root np tb rb nv w ow β τ m s) : ∃ cv a0 a1 a2 a3 a4 g cap l b tv vv, Blk w.heap rb (rnc np tb nv root cv (.slice (some ⟨g, 0, none⟩) s.ths.length cap) a0 a1 a2 a3 a4 s) 112 ∧ Blk w.heap g l 123 ∧ l[0 + s.cur * 1]? = some (ptr b) ∧ s.ths.length ≤ cap ∧ τ[s.cur]? = some b ∧ ThV w ow s.cur β s.th b tv vv ∧ ow g = 72 := by
  obtain ⟨cv, hv, a0, a1, a2, a3, a4, h1, h2, h3, h4⟩ := h.r
  obtain ⟨b, tv, vv, q1, q2⟩ := h.T s.cur s.th (th_at h.cl)
  have hc := h.cl
  obtain ⟨g, cap, l, rfl, hB, k1, k2, k3, k4⟩ := h3.o.pos (by omega)
  refine ⟨cv, a0, a1, a2, a3, a4, g, cap, l, b, tv, vv, h1, hB, ?_, k1, q1, q2, h3.t g rfl⟩
  rw [Nat.zero_add, Nat.mul_one]
  exact own_get k4 (by rw [List.getElem?_map, q1]; rfl)
/-- a thread turned. -/
theorem RM.turnT (h : RM G root np tb rb nv w ow β τ m s) (f : Fram (tg ow (thT s.cur)) w w') (hE : Xt w ow ow') (hd : ∀ b, w'.heap.size ≤ b → ow' b = 66) {y : ITh} {m' : Nat} (hb : τ[s.cur]? = some b) (hy : ThV w' ow' s.cur β y b tv vv)
    (hte : ∀ t ∈ y.tasks, t.e ≤ s.envs.length) (hm : m ≤ m') (hl : y.tasks.length ≤ m' ∧ y.vals.length ≤ m') : RM G root np tb rb nv w' ow' β τ m' (s.setT y) := by
  have hc := h.cl
  have h5 := h.t5
  have hmem : ∀ z ∈ (s.setT y).ths, z ∈ s.ths ∨ z = y := fun z hz => List.mem_or_eq_of_mem_set hz
  have hlen : (s.setT y).ths.length = s.ths.length := by simp [IS.setT]
  obtain ⟨cv, hv, a0, a1, a2, a3, a4, h1, h2, h3, h4⟩ := h.r
  have hn : ∀ {c t : Nat}, ow c = t → (70 ≤ t ∧ t ≤ 72) ∨ 1000 ≤ t ∨ mtag t ∨ t = 67 → ¬ tg ow (thT s.cur) c := fun {c t} e q z => by
    have z : thT s.cur (ow c) := z
    rw [e] at z
    unfold thT at z; unfold mtag at q; omega
  refine ⟨⟨cv, hv, a0, a1, a2, a3, a4, h1.fram f (hn h.t70 (by omega)), h2.far f (fun b q l => hn q (by omega)) hE, by rw [hlen]; exact h3.far f (fun b q l => hn q (by omega)) hE, h4⟩, by rw [hE _ h1.lt]; exact h.t70, fun i x hx => ?_, by rw [hlen]; exact h.tl, by rw [hlen]; exact h5, fun k z hz => ?_, h.el, h.up, fun z hz => ?_, h.ce, h.M.far f (fun b q l => hn rfl (.inr (.inr (.inl q)))) hE, ?_, hd, by rw [hlen]; exact h.cl, h.sk, fun z hz => ?_, h.fu⟩
  · have hx : (s.ths.set s.cur y)[i]? = some x := hx
    rw [List.getElem?_set] at hx
    by_cases e : s.cur = i
    · subst e
      rw [if_pos rfl, if_pos hc] at hx
      cases hx
      exact ⟨b, tv, vv, hb, hy⟩
    · rw [if_neg e] at hx
      obtain ⟨b, tv, vv, q1, q2⟩ := h.T i x hx
      have hi := (List.getElem?_eq_some_iff.1 hx).1
      refine ⟨b, tv, vv, q1, q2.far f (fun b q l z => ?_) hE⟩
      have z : thT s.cur (ow b) := z
      unfold thT at q z; omega
  · obtain ⟨b, q1, q2, q3⟩ := h.E k z hz
    exact ⟨b, q1, q2.fram f (hn q3 (by omega)), by rw [hE b q2.lt]; exact q3⟩
  · rcases hmem z hz with hz | rfl
    · exact h.te z hz
    · exact hte
  · obtain ⟨Gp, q1, q2⟩ := h.N
    exact ⟨Gp, q1.far f (fun b q l => hn q (by omega)) hE, q2⟩
  · rcases hmem z hz with hz | rfl
    · have := h.bd z hz; omega
    · exact hl
/-- the machine's own fields turned. -/
theorem RM.turnR (h : RM G root np tb rb nv w ow β τ m s) (f : Fram (one rb) w w') {s' : IS} (e1 : s'.envs = s.envs) (e2 : s'.clos = s.clos) (e3 : s'.ths = s.ths) (e4 : s'.tabs = s.tabs) {cv hv a0 a1 a2 a3 a4 c' v' b0 b1 b2 b3 b4 : Value} (hB : Blk w.heap rb (rnc np tb nv root cv hv a0 a1 a2 a3 a4 s) 112)
    (hB' : Blk w'.heap rb (rnc np tb nv root cv hv b0 b1 b2 b3 b4 s') 112) (hs : ∀ (j : Nat) (c : Nat), s'.stack.reverse[j]? = some c → [b0, b1, b2, b3, b4][j]? = some (i64c c)) (hc : s'.cur < s.ths.length) (hk : s'.stack.length ≤ 5) (hf : s'.fuel < 9223372036854775808) : RM G root np tb rb nv w' ow β τ m s' := by
  obtain ⟨cv', hv', a0', a1', a2', a3', a4', h1, h2, h3, h4⟩ := h.r
  have hu := (Blk.uniq h1 hB).1
  unfold rnc at hu
  simp only [List.cons.injEq, true_and, and_true] at hu
  obtain ⟨rfl, rfl, -⟩ := hu
  have hn : ∀ {c t : Nat}, ow c = t → t ≠ 70 → ¬ one rb c := fun {c t} e q z => by
    have z : c = rb := z
    rw [z, h.t70] at e; omega
  have hE := Xt.refl w ow
  refine ⟨⟨cv', hv', b0, b1, b2, b3, b4, hB', by rw [e2]; exact h2.far f (fun b q l => hn q (by omega)) hE, by rw [e3]; exact h3.far f (fun b q l => hn q (by omega)) hE, hs⟩, h.t70, fun i x hx => ?_, by rw [e3]; exact h.tl, by rw [e3]; exact h.t5, fun k z hz => ?_, by rw [e1]; exact h.el, by rw [e1]; exact h.up, by rw [e3, e1]; exact h.te, by rw [e2, e1]; exact h.ce, by rw [e4]; exact h.M.far f (fun b q l => hn rfl (by unfold mtag at q; omega)) hE, ?_, h.dfN f, by rw [e3]; exact hc, hk, by rw [e3]; exact h.bd, hf⟩
  · rw [e3] at hx
    obtain ⟨b, tv, vv, q1, q2⟩ := h.T i x hx
    exact ⟨b, tv, vv, q1, q2.far f (fun b q l => hn rfl (by unfold thT at q; omega)) hE⟩
  · rw [e1] at hz
    obtain ⟨b, q1, q2, q3⟩ := h.E k z hz
    exact ⟨b, q1, q2.fram f (hn q3 (by omega)), q3⟩
  · obtain ⟨Gp, q1, q2⟩ := h.N
    exact ⟨Gp, q1.far f (fun b q l => hn q (by omega)) hE, q2⟩
/-- the tables turned. -/
theorem RM.turnM (h : RM G root np tb rb nv w ow β τ m s) (f : Fram (tg ow mtag) w w') (hE : Xt w ow ow') {T : List Tb} (hM : MTV w' ow' np tb T) : RM G root np tb rb nv w' (cut66 w' ow') β τ m { s with tabs := T } := by
  have hn : ∀ {c t : Nat}, ow c = t → (67 ≤ t ∧ t ≤ 89) ∨ 1000 ≤ t → ¬ tg ow mtag c := fun {c t} e q z => by
    have z : mtag (ow c) := z
    rw [e] at z
    unfold mtag at z; omega
  have hE : Xt w ow (cut66 w' ow') := fun b hb => by rw [cut66_xt w' ow' b (by have := f.size; omega)]; exact hE b hb
  obtain ⟨cv, hv, a0, a1, a2, a3, a4, h1, h2, h3, h4⟩ := h.r
  refine ⟨⟨cv, hv, a0, a1, a2, a3, a4, h1.fram f (hn h.t70 (by omega)), h2.far f (fun b q l => hn q (by omega)) hE, h3.far f (fun b q l => hn q (by omega)) hE, h4⟩, by rw [hE _ h1.lt]; exact h.t70, fun i x hx => ?_, h.tl, h.t5, fun k z hz => ?_, h.el, h.up, h.te, h.ce, hM.far (Fram.refl none' _) (fun _ _ _ q => q) (cut66_xt _ _), ?_, cut66_df _ _, h.cl, h.sk, h.bd, h.fu⟩
  · obtain ⟨b, tv, vv, q1, q2⟩ := h.T i x hx
    have hi : i < s.ths.length := (List.getElem?_eq_some_iff.1 hx).1
    have h5 := h.t5
    exact ⟨b, tv, vv, q1, q2.far f (fun b q l => hn rfl (by unfold thT at q; omega)) hE⟩
  · obtain ⟨b, q1, q2, q3⟩ := h.E k z hz
    exact ⟨b, q1, q2.fram f (hn q3 (by omega)), by rw [hE b q2.lt]; exact q3⟩
  · obtain ⟨Gp, q1, q2⟩ := h.N
    exact ⟨Gp, q1.far f (fun b q l => hn q (by omega)) hE, q2⟩

theorem rws_congr {α : Type} {f g : α → List Value} : ∀ {l : List α}, (∀ x ∈ l, f x = g x) → rws f l = rws g l
  | [], _ => rfl
  | x :: l, h => by
    have ih := rws_congr (l := l) (fun y hy => h y (List.mem_cons_of_mem _ hy))
    simp only [rws, List.flatMap_cons] at ih ⊢
    rw [ih, h x List.mem_cons_self]
/-- a new variable: its block, until now a local one. -/
theorem RM.newE (h : RM G root np tb rb nv w ow β τ m s) {z : Env} (hB : Blk w.heap b (evc β z) 159) (hu : z.up ≤ s.envs.length) (ht : ow b = 66 := by assumption) : RM G root np tb rb nv w (ot ow b (1000 + β.length)) (β ++ [b]) τ m { s with envs := s.envs ++ [z] } := by
  have hE : ∀ {c t : Nat}, ow c = t → t ≠ 66 → ot ow b (1000 + β.length) c = t := fun {c t} e q => by rw [ot_old (fun z => by rw [z, ht] at e; omega)]; exact e
  have hO : ∀ {tag : Nat} {v : Value} {e k n : Nat} {xs : List Value}, tag ≠ 66 → OwT w ow tag v e k n xs → OwT w (ot ow b (1000 + β.length)) tag v e k n xs := fun {tag v e k n xs} q o => ⟨o.o, fun c hc => hE (o.t c hc) q⟩
  have hep : ∀ e, e ≤ s.envs.length → epo (β ++ [b]) e = epo β e := fun e he => epo_app (by rw [h.el]; exact he)
  have hte : ∀ {x : ITh}, x ∈ s.ths → rws (tsc (β ++ [b])) x.tasks.reverse = rws (tsc β) x.tasks.reverse := fun {x} hx => rws_congr (fun t q => by unfold tsc; rw [hep _ (h.te x hx t (List.mem_reverse.1 q))])
  have hlen : (s.envs ++ [z]).length = s.envs.length + 1 := by simp
  obtain ⟨cv, hv, a0, a1, a2, a3, a4, h1, h2, h3, h4⟩ := h.r
  refine ⟨⟨cv, hv, a0, a1, a2, a3, a4, h1, ?_, hO (by omega) h3, h4⟩, hE h.t70 (by omega), fun i x hx => ?_, h.tl, h.t5, fun k y hy => ?_, by simp [h.el], fun k y hy => ?_, fun x hx t q => ?_, fun c hc => ?_, ?_, ?_, fun c hc => by rw [ot_old (fun z => by have := hB.lt; omega)]; exact h.df c hc, h.cl, h.sk, h.bd, h.fu⟩
  · have : rws (clc (β ++ [b])) s.clos = rws (clc β) s.clos := rws_congr (fun c hc => by unfold clc; rw [hep _ (h.ce c hc)])
    rw [this]; exact hO (by omega) h2
  · obtain ⟨b', tv, vv, q1, q2⟩ := h.T i x hx
    have hi := (List.getElem?_eq_some_iff.1 hx).1
    have h5 := h.t5
    have hi : i < s.ths.length := hi
    exact ⟨b', tv, vv, q1, q2.k, hE q2.t (by omega), by rw [hte (List.mem_of_getElem? hx)]; exact hO (by omega) q2.ts, hO (by omega) q2.vs⟩
  · have hy : (s.envs ++ [z])[k]? = some y := hy
    rw [List.getElem?_append] at hy
    split at hy
    · rename_i hk
      obtain ⟨b', q1, q2, q3⟩ := h.E k y hy
      refine ⟨b', by rw [List.getElem?_append_left (List.getElem?_eq_some_iff.1 q1).1]; exact q1, ?_, hE q3 (by omega)⟩
      unfold evc
      rw [hep y.up (by have := h.up k y hy; omega)]
      exact q2
    · rename_i hk
      have hk' : k - s.envs.length = 0 := by have := (List.getElem?_eq_some_iff.1 hy).1; simp at this; omega
      rw [hk'] at hy
      simp at hy
      subst hy
      have hkl : k = β.length := by have := h.el; omega
      subst hkl
      refine ⟨b, by rw [List.getElem?_append_right (Nat.le_refl _)]; simp, ?_, ot_self _ _ _⟩
      unfold evc
      rw [hep z.up hu]
      exact hB
  · have hy : (s.envs ++ [z])[k]? = some y := hy
    rw [List.getElem?_append] at hy
    split at hy
    · exact h.up k y hy
    · have hk' : k - s.envs.length = 0 := by have := (List.getElem?_eq_some_iff.1 hy).1; simp at this; omega
      rw [hk'] at hy
      simp at hy
      subst hy
      omega
  · show t.e ≤ (s.envs ++ [z]).length
    have := h.te x hx t q; omega
  · show c.2 ≤ (s.envs ++ [z]).length
    have := h.ce c hc; omega
  · obtain ⟨V, rows, m1, m2, m3⟩ := h.M.ex
    have hl := h.M.len
    refine ⟨⟨V, rows, m1, hO (by omega) m2, fun i t hi => ?_⟩, hE h.M.tag (by omega), h.M.len, h.M.np1, h.M.ok⟩
    obtain ⟨v, q1, q2⟩ := m3 i t hi
    exact ⟨v, q1, hO (by omega) q2⟩
  · obtain ⟨Gp, q1, q2⟩ := h.N
    exact ⟨Gp, hO (by omega) q1, q2⟩
theorem row_get {l xs : List Value} {a k j : Nat} (h : (l.drop a).take k = xs) (hj : j < k) : l[a + j]? = xs[j]? := by
  rw [← h, List.getElem?_take, if_pos hj, List.getElem?_drop]
/-- the nodes. -/
theorem RM.nodes (h : RM G root np tb rb nv w ow β τ m s) (hG : 0 < G.length) : ∃ g cap l, nv = .slice (some ⟨g, 0, none⟩) G.length cap ∧ Blk w.heap g l 148 ∧ ow g = 67 ∧ G.length ≤ cap ∧ ∀ n, n < G.length → ∃ p, (l.drop (0 + n * 8)).take 8 = ndc (nd G n, p) := by
  obtain ⟨Gp, h1, h2⟩ := h.N
  have hl : Gp.length = G.length := by rw [← h2, List.length_map]
  rw [← hl] at h1
  obtain ⟨x, hx⟩ : ∃ x, Gp[0]? = some x := ⟨_, List.getElem?_eq_getElem (by omega)⟩
  obtain ⟨g, cap, l, q1, q2, q3, q4, q5, q6, q7⟩ := h1.at ndc_len hx
  refine ⟨g, cap, l, by rw [q1, hl], q2, q6, by omega, fun n hn => ?_⟩
  obtain ⟨y, hy⟩ : ∃ y, Gp[n]? = some y := ⟨_, List.getElem?_eq_getElem (by omega)⟩
  refine ⟨y.2, ?_⟩
  rw [q7 n y hy]
  have : nd G n = y.1 := by
    unfold nd
    rw [List.getD_eq_getElem?_getD, ← h2, List.getElem?_map, hy]; rfl
  rw [this]
def La (b : Nat) (l : List Value) (t : Nat) (P : World → Prop) : World → Prop := fun u => Blk u.heap b l t ∧ P u
def Lz (rb : Nat) (np : Value) (tb : Nat) (nv : Value) : World → Prop := fun u => ∃ cs, Blk u.heap rb (np :: ptr tb :: nv :: cs) 112
theorem RM.rz (h : RM G root np tb rb nv w ow β τ m s) : Lz rb np tb nv w := by
  obtain ⟨cv, hv, a0, a1, a2, a3, a4, h1, -⟩ := h.r
  exact ⟨_, h1⟩
theorem ot_kR {t c tag : Nat} (_ : RM G root np tb rb nv w (ot ow b t) β τ m s) (hk : ow c = tag) (hne : c ≠ b) : ot ow b t c = tag := by rw [ot_old hne]; exact hk
theorem ot_xR {w0 : World} {ow0 : Nat → Nat} {t : Nat} (_ : RM G root np tb rb nv w (ot ow b t) β τ m s) (hX : Xt w0 ow0 ow) (hb : w0.heap.size ≤ b) : Xt w0 ow0 (ot ow b t) := hX.ot hb
/-- what a call comes to: the new state, and what was written. -/
def RP (G : Arena) (root : Nat) (np : Value) (tb rb : Nat) (nv : Value) (w : World) (ow : Nat → Nat) (β τ : List Nat) (m : Nat) (s : IS) (w' : World) : Prop := ∃ ow', Xt w ow ow' ∧ Fram (tg ow cmT) w w' ∧ RM G root np tb rb nv w' ow' β τ m s
theorem cm_loc {l : List Value} {t d tag : Nat} (hE : Xt { w with drawn := d } ow ow') (f : Fram (tg ow cmT) { w with drawn := d } w') (h : Blk w.heap b l t) (ht : ow b = tag) (hn : tag = 66 ∨ tag = 67 := by omega) : Blk w'.heap b l t ∧ ow' b = tag :=
  ⟨f.blkF h (fun z => by have z : cmT (ow b) := z; rw [ht] at z; unfold cmT mtag at z; omega), by rw [hE b h.lt]; exact ht⟩
theorem cm_trans {w0 : World} {ow0 : Nat → Nat} {d : Nat} (h0 : Xt w0 ow0 ow) (f0 : Fram (tg ow0 cmT) w0 w) (f : Fram (tg ow cmT) { w with drawn := d } w') : Fram (tg ow0 cmT) w0 w' := f0.transG f (fun b hb q => by have q : cmT (ow b) := q; rw [h0 b hb] at q; exact q)
theorem thT_fram {c : Nat} (hc : c < 5) (f : Fram (tg ow (thT c)) w w') : Fram (tg ow cmT) w w' := f.mono (fun b _ q => thT_cm hc q)
end

end Go.Proofs.Qxb6500568aGreatDoor
