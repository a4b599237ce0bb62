import Derived.Test.Qxb6500568aGreatDoorOe
namespace Go.Proofs.Qxb6500568aGreatDoor
open Ieee
set_option linter.unusedVariables false
set_option linter.unusedSimpArgs false
set_option linter.unusedSectionVars false

/-! What a check of the machine asks of the machine of variables. -/

/-- one thread by itself. -/
structure BT (Ps : List Proto) (cl : List (Nat × List Nat)) (i : Nat) (t : ATh) : Prop where
  s5 : 1 ≤ t.st ∧ t.st ≤ 5
  fn : t.fn < cl.length
  e : t.st = 1 ∨ t.st = 5 → t.frs = []
  ne : t.st = 2 ∨ t.st = 3 → t.frs ≠ []
  z : i = 0 → t.st ≠ 2 ∧ t.st ≠ 1
  bt : ∀ f, t.frs.getLast? = some f → f.prot = false
  pc : ∀ f ∈ t.frs, f.clo < cl.length ∧ f.pc ≤ (pr Ps (cl.getD f.clo (0, [])).1).code.length
  op : ∀ f ∈ t.frs.tail, f.ops.length ≤ 126
  o2 : t.st ≠ 4 → ∀ f ∈ t.frs, f.ops.length ≤ 126
/-- the threads that were never resumed. -/
def cntF (l : List ATh) : Nat := l.countP fun t => decide (t.st = 1)
structure BI (Ps : List Proto) (a : AS) : Prop where
  t : ∀ (i : Nat) t, a.ths[i]? = some t → BT Ps a.clos i t
  c4 : ∀ i, (thA a.ths i).st = 4 → i = a.cur
  f : a.first + cntF a.ths + 1 ≤ a.ths.length
  d : a.done = true → a.ans.E = 0 ∨ a.ans.E = 12 → (thA a.ths a.cur).st = 5

section
variable {Ps : List Proto} {a : AS} {v : PV}

theorem thA_at {ths : List ATh} {c : Nat} (h : c < ths.length) : ths[c]? = some (thA ths c) := by
  unfold thA
  rw [List.getD_eq_getElem?_getD, List.getElem?_eq_getElem h]; rfl
theorem cntF_set : ∀ {l : List ATh} {c : Nat} {t : ATh}, c < l.length → cntF (l.set c t) + (if (thA l c).st = 1 then 1 else 0) = cntF l + (if t.st = 1 then 1 else 0)
  | [], c, t, h => by cases h
  | x :: l, 0, t, h => by
    unfold cntF
    rw [List.set_cons_zero, List.countP_cons, List.countP_cons]
    show _ + (if x.st = 1 then 1 else 0) = _
    simp only [decide_eq_true_eq]
    omega
  | x :: l, c + 1, t, h => by
    have := cntF_set (l := l) (c := c) (t := t) (by simpa using h)
    unfold cntF at this ⊢
    rw [List.set_cons_succ, List.countP_cons, List.countP_cons]
    have e : thA (x :: l) (c + 1) = thA l c := rfl
    rw [e]
    omega
theorem BI.at (h : BI Ps a) {c : Nat} (hc : c < a.ths.length) : BT Ps a.clos c (thA a.ths c) := h.t c _ (thA_at hc)
theorem BI.cu (h : BI Ps a) (T : TS a.cur a.stack a.ths) : BT Ps a.clos a.cur a.th := h.at T.lt
/-- the thread at hand goes on. -/
theorem BI.setT (h : BI Ps a) (hd : a.done = false) (T : TS a.cur a.stack a.ths) {t : ATh} (ht : BT Ps a.clos a.cur t) (h4 : t.st = 4) : BI Ps (a.setT t) := by
  refine ⟨fun i u hu => ?_, fun i hi => ?_, ?_, fun q => by rw [show (a.setT t).done = a.done from rfl, hd] at q; cases q⟩
  · have hu : (a.ths.set a.cur t)[i]? = some u := hu
    rw [List.getElem?_set] at hu
    by_cases hk : a.cur = i
    · rw [if_pos hk] at hu
      split at hu
      · injection hu with hu; rw [← hu, ← hk]; exact ht
      · cases hu
    · rw [if_neg hk] at hu; exact h.t i u hu
  · have hi : (thA (a.ths.set a.cur t) i).st = 4 := hi
    rw [thA_set T.lt] at hi
    by_cases hk : i = a.cur
    · exact hk
    · rw [if_neg hk] at hi; exact h.c4 i hi
  · have := cntF_set (t := t) T.lt
    have h1 := T.st
    have h2 := h.f
    rw [if_neg (by omega), if_neg (by omega)] at this
    show a.first + cntF (a.ths.set a.cur t) + 1 ≤ (a.ths.set a.cur t).length
    rw [List.length_set]; omega
theorem frs_cons (T : TS a.cur a.stack a.ths) : a.th.frs = a.fr :: a.th.frs.tail := by
  have h := T.ne
  unfold AS.fr
  have h : a.th.frs ≠ [] := h
  cases hq : a.th.frs with
  | nil => exact absurd hq h
  | cons f r => rfl
theorem gl_cons {f f' : AFr} {r : List AFr} (hp : f'.prot = f.prot) : (∀ g, (f :: r).getLast? = some g → g.prot = false) → ∀ g, (f' :: r).getLast? = some g → g.prot = false := by
  intro h g hg
  cases r with
  | nil => simp at hg; subst hg; rw [hp]; exact h f (by simp)
  | cons x r => rw [List.getLast?_cons_cons] at hg; exact h g (by rw [List.getLast?_cons_cons]; exact hg)
theorem BT.setF {cl : List (Nat × List Nat)} {i : Nat} {t : ATh} {f f' : AFr} {r : List AFr} (h : BT Ps cl i t) (h4 : t.st = 4) (hf : t.frs = f :: r) (hp : f'.prot = f.prot) (hc : f'.clo = f.clo) (hpc : f'.pc ≤ (pr Ps (cl.getD f.clo (0, [])).1).code.length) : BT Ps cl i { t with frs := f' :: r } := by
  refine ⟨h.s5, h.fn, fun q => ?_, fun _ q => (by cases q), h.z, gl_cons hp (by have := h.bt; rw [hf] at this; exact this), fun g hg => ?_, ?_, fun q => absurd h4 q⟩
  · have q : t.st = 1 ∨ t.st = 5 := q; omega
  · rcases List.mem_cons.1 hg with rfl | hg
    · rw [hc]; exact ⟨(h.pc f (by rw [hf]; exact List.mem_cons_self)).1, hpc⟩
    · exact h.pc g (by rw [hf]; exact List.mem_cons_of_mem _ hg)
  · have := h.op; rw [hf] at this; exact this
theorem BI.setF (h : BI Ps a) (hd : a.done = false) (T : TS a.cur a.stack a.ths) {f : AFr} (hp : f.prot = a.fr.prot) (hc : f.clo = a.fr.clo) (hpc : f.pc ≤ (pr Ps a.pro).code.length) : BI Ps (a.setF f) :=
  h.setT hd T ((h.cu T).setF T.st (frs_cons T) hp hc hpc) T.st
theorem BI.pcl (h : BI Ps a) (T : TS a.cur a.stack a.ths) : a.fr.clo < a.clos.length ∧ a.fr.pc ≤ (pr Ps a.pro).code.length := (h.cu T).pc a.fr (by rw [frs_cons T]; exact List.mem_cons_self)
theorem BI.ops (h : BI Ps a) (hd : a.done = false) (T : TS a.cur a.stack a.ths) (l : List PV) : BI Ps (aops l a) := h.setF hd T rfl rfl (h.pcl T).2
theorem BI.pc (h : BI Ps a) (hd : a.done = false) (T : TS a.cur a.stack a.ths) {x : Nat} (hx : x ≤ (pr Ps a.pro).code.length) : BI Ps (apc x a) := h.setF hd T rfl rfl hx
theorem TS.setF (T : TS a.cur a.stack a.ths) {f : AFr} : TS a.cur a.stack (a.setF f).ths := T.set (t := { a.th with frs := f :: a.th.frs.tail }) T.st (List.cons_ne_nil _ _)
theorem setF_fr (T : TS a.cur a.stack a.ths) {f : AFr} : (a.setF f).fr = f := by
  unfold AS.fr AS.th
  show ((thA (a.ths.set a.cur _) a.cur).frs).headD _ = _
  rw [thA_set T.lt, if_pos rfl]; rfl
theorem ops_pro (T : TS a.cur a.stack a.ths) {l : List PV} : (aops l a).pro = a.pro := by
  unfold AS.pro
  unfold aops
  rw [setF_fr T]; rfl
theorem BI.nx (h : BI Ps a) (hd : a.done = false) (T : TS a.cur a.stack a.ths) {x : Nat} {l : List PV} (hx : x ≤ (pr Ps a.pro).code.length) : BI Ps (apc x (aops l a)) :=
  (h.ops hd T l).pc hd T.setF (by rw [ops_pro T]; exact hx)
theorem BI.fin (h : BI Ps a) {e : Nat} {tl : Str} (he : e ≠ 0 ∧ e ≠ 12) : BI Ps (afin e tl a) := ⟨h.t, h.c4, h.f, fun _ q => by rcases q with q | q; exact absurd q he.1; exact absurd q he.2⟩
theorem BI.same (h : BI Ps a) {b : AS} (h1 : b.clos = a.clos) (h2 : b.ths = a.ths) (h3 : b.cur = a.cur) (h4 : b.first = a.first) (h5 : b.done = false) : BI Ps b := by
  refine ⟨?_, ?_, ?_, fun q => by rw [h5] at q; cases q⟩
  · rw [h1, h2]; exact h.t
  · rw [h2, h3]; exact h.c4
  · rw [h2, h4]; exact h.f
theorem BI.push2 (h : BI Ps a) (hd : a.done = false) (T : TS a.cur a.stack a.ths) (u w : PV) : BI Ps (apush2 u w a) := by
  unfold apush2
  rw [frs_cons T]
  exact h.setT hd T ((h.cu T).setF (f' := { a.fr with ops := w :: u :: a.fr.ops }) T.st (frs_cons T) rfl rfl (h.pcl T).2) T.st
/-- the thread at hand ends or yields, the one that resumed it goes on. -/
theorem BI.down (h : BI Ps a) (T : TS a.cur a.stack a.ths) {t : ATh} {c : Nat} {r : List Nat} (hs : a.stack = c :: r) (ht : BT Ps a.clos a.cur t) (h1 : t.st = 5 ∨ t.st = 2) {b : AS} (hb : b.clos = a.clos) (hbt : b.ths = a.ths.set a.cur t) (hbc : b.cur = c) (hbf : b.first = a.first) (hbd : b.done = false) :
    BI Ps (b.setT { b.th with st := 4 }) := by
  have hcs := T.sk c (by rw [hs]; exact List.mem_cons_self)
  have hnd := T.nd
  rw [hs] at hnd
  have hne : c ≠ a.cur := fun e => (List.nodup_cons.1 hnd).1 (e ▸ List.mem_cons_self)
  have hbth : b.th = thA a.ths c := by
    unfold AS.th
    rw [hbt, hbc]
    exact (thA_set T.lt c).trans (if_neg hne)
  have hl : c < b.ths.length := by rw [hbt, List.length_set]; exact hcs.1
  have e : ∀ k, thA (b.setT { b.th with st := 4 }).ths k = if k = c then { thA a.ths c with st := 4 } else if k = a.cur then t else thA a.ths k := fun k => by
    show thA (b.ths.set b.cur { b.th with st := 4 }) k = _
    rw [hbc, thA_set hl, hbth, hbt, thA_set T.lt]
  have hlen : (b.setT { b.th with st := 4 }).ths.length = a.ths.length := by
    show (b.ths.set b.cur { b.th with st := 4 }).length = _
    rw [List.length_set, hbt, List.length_set]
  have hc0 := h.at hcs.1
  refine ⟨fun i u hu => ?_, fun i hi => ?_, ?_, fun q => by rw [show (b.setT { b.th with st := 4 }).done = b.done from rfl, hbd] at q; cases q⟩
  · have hi : i < a.ths.length := by rw [← hlen]; exact (List.getElem?_eq_some_iff.1 hu).1
    have hu' := thA_at (ths := (b.setT { b.th with st := 4 }).ths) (c := i) (by rw [hlen]; exact hi)
    rw [hu] at hu'
    injection hu' with hu'
    rw [hu', e]
    show BT Ps b.clos i _
    rw [hb]
    by_cases hk : i = c
    · subst hk
      rw [if_pos rfl]
      exact ⟨by dsimp only; omega, hc0.fn, fun q => by dsimp only at q; omega, fun q => by dsimp only at q; omega, fun _ => by dsimp only; omega, hc0.bt, hc0.pc, hc0.op, fun q => absurd rfl q⟩
    · rw [if_neg hk]
      by_cases hk2 : i = a.cur
      · rw [if_pos hk2, hk2]; exact ht
      · rw [if_neg hk2]; exact h.at hi
  · rw [e] at hi
    show i = b.cur
    rw [hbc]
    by_cases hk : i = c
    · exact hk
    · rw [if_neg hk] at hi
      by_cases hk2 : i = a.cur
      · rw [if_pos hk2] at hi; omega
      · rw [if_neg hk2] at hi; exact absurd (h.c4 i hi) hk2
  · have k1 := cntF_set (t := t) T.lt
    have k2 := cntF_set (t := { b.th with st := 4 }) hl
    have k3 := T.st
    have k4 := h.f
    have k5 : (thA b.ths c).st = 3 := by have : b.th = thA b.ths b.cur := rfl; rw [hbc] at this; rw [← this, hbth]; exact hcs.2.1
    rw [if_neg (by omega), if_neg (by omega)] at k1
    rw [if_neg (by omega), if_neg (by show ¬ 4 = 1; decide), hbt] at k2
    rw [hlen]
    show b.first + cntF (b.ths.set b.cur _) + 1 ≤ _
    rw [hbc, hbf, hbt]
    omega
end

end Go.Proofs.Qxb6500568aGreatDoor
