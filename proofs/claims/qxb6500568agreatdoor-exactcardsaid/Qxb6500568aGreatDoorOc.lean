import Derived.Test.Qxb6500568aGreatDoorOb
namespace Go.Proofs.Qxb6500568aGreatDoor
open Ieee
set_option linter.unusedVariables false
set_option linter.unusedSimpArgs false
set_option linter.unusedSectionVars false

/-! The threads of the variable machine keep their shape. -/

def thA (ths : List ATh) (c : Nat) : ATh := ths.getD c ATh.zero
structure TS (cur : Nat) (stack : List Nat) (ths : List ATh) : Prop where
  lt : cur < ths.length
  st : (thA ths cur).st = 4
  ne : (thA ths cur).frs ≠ []
  sk : ∀ c ∈ stack, c < ths.length ∧ (thA ths c).st = 3 ∧ (thA ths c).frs ≠ []
  nd : (cur :: stack).Nodup
  bot : (cur :: stack).getLast? = some 0
  y : ∀ c, (thA ths c).st = 2 → (thA ths c).frs ≠ []
structure AT (Ps : List Proto) (a : AS) : Prop where
  cl : ∀ (c : Nat) p ids, a.clos[c]? = some (p, ids) → p < Ps.length ∧ ids.length = (pr Ps p).ups.length
  fr : ∀ t ∈ a.ths, ∀ f ∈ t.frs, f.clo < a.clos.length
  fn : ∀ t ∈ a.ths, t.st = 1 → t.fn < a.clos.length
  tr : a.done = false → TS a.cur a.stack a.ths

section
variable {Ps : List Proto} {a : AS} {v : PV}

theorem thA_set {ths : List ATh} {c : Nat} {t : ATh} (h : c < ths.length) (k : Nat) : thA (ths.set c t) k = if k = c then t else thA ths k := by
  unfold thA
  rw [List.getD_eq_getElem?_getD, List.getElem?_set, List.getD_eq_getElem?_getD]
  by_cases hk : k = c
  · subst hk; simp [h]
  · have : ¬ c = k := fun e => hk e.symm
    simp [hk, this]
/-- the thread at hand goes on. -/
theorem TS.set {cur : Nat} {stack : List Nat} {ths : List ATh} {t : ATh} (h : TS cur stack ths) (h1 : t.st = 4) (h2 : t.frs ≠ []) : TS cur stack (ths.set cur t) := by
  have hc : ∀ c ∈ stack, c ≠ cur := fun c hc e => (List.nodup_cons.1 h.nd).1 (e ▸ hc)
  refine ⟨by rw [List.length_set]; exact h.lt, by rw [thA_set h.lt, if_pos rfl]; exact h1, by rw [thA_set h.lt, if_pos rfl]; exact h2, fun c hcs => ?_, h.nd, h.bot, fun c => ?_⟩
  · rw [List.length_set, thA_set h.lt, if_neg (hc c hcs)]; exact h.sk c hcs
  · rw [thA_set h.lt]
    by_cases hk : c = cur
    · rw [if_pos hk]; exact fun _ => h2
    · rw [if_neg hk]; exact h.y c
theorem AT.setT (h : AT Ps a) {t : ATh} (ht : ∀ f ∈ t.frs, f.clo < a.clos.length) (h1 : t.st = a.th.st ∧ t.fn = a.th.fn) (h2 : a.done = false → t.frs ≠ []) : AT Ps (a.setT t) := by
  refine ⟨h.cl, fun u hu f hf => ?_, fun u hu h3 => ?_, fun hd => (h.tr hd).set (h1.1.trans (h.tr hd).st) (h2 hd)⟩
  · rcases List.mem_or_eq_of_mem_set hu with hu | rfl
    · exact h.fr u hu f hf
    · exact ht f hf
  · rcases List.mem_or_eq_of_mem_set hu with hu' | rfl
    · exact h.fn u hu' h3
    · have hl : a.cur < a.ths.length := by
        by_cases hl : a.cur < a.ths.length
        · exact hl
        · rw [show (a.setT u).ths = a.ths.set a.cur u from rfl, List.set_eq_of_length_le (by omega)] at hu
          exact absurd h3 (by
            have := h1.1
            unfold AS.th at this
            rw [List.getD_eq_getElem?_getD, List.getElem?_eq_none (by omega)] at this
            rw [this]; show (0 : Nat) ≠ 1; decide)
      rw [h1.2]
      refine h.fn a.th ?_ (h1.1 ▸ h3)
      unfold AS.th
      rw [List.getD_eq_getElem?_getD, List.getElem?_eq_getElem hl]
      exact List.getElem_mem hl
theorem AT.thM (h : AT Ps a) : ∀ f ∈ a.th.frs, f.clo < a.clos.length := by
  unfold AS.th
  rw [List.getD_eq_getElem?_getD]
  rcases hq : a.ths[a.cur]? with _ | t
  · intro f hf; cases hf
  · exact h.fr t (List.mem_of_getElem? hq)
theorem AT.setF (h : AT Ps a) {f : AFr} (hd : a.done = false) (hf : f.clo = a.fr.clo) : AT Ps (a.setF f) := by
  refine h.setT (fun g hg => ?_) ⟨rfl, rfl⟩ (fun _ => by simp)
  rcases List.mem_cons.1 hg with rfl | hg
  · rw [hf]
    have := (h.tr hd).ne
    unfold AS.fr
    rcases hq : a.th.frs with _ | ⟨g', r⟩
    · exact absurd hq this
    · exact h.thM g' (by rw [hq]; exact List.mem_cons_self)
  · exact h.thM g (List.mem_of_mem_tail hg)
theorem AT.ops' (h : AT Ps a) (hd : a.done = false) (l : List PV) : AT Ps (aops l a) := h.setF hd rfl
theorem AT.pc (h : AT Ps a) (hd : a.done = false) (x : Nat) : AT Ps (apc x a) := h.setF hd rfl
theorem AT.nx (h : AT Ps a) (hd : a.done = false) (x : Nat) (l : List PV) : AT Ps (apc x (aops l a)) := (h.ops' hd l).pc hd x
theorem AT.fin (h : AT Ps a) (e : Nat) (tl : Str) : AT Ps (afin e tl a) := ⟨h.cl, h.fr, h.fn, fun hd => by cases hd⟩
theorem AT.same (h : AT Ps a) {b : AS} (h1 : b.clos = a.clos) (h2 : b.ths = a.ths) (h3 : b.cur = a.cur) (h4 : b.stack = a.stack) (h5 : b.done = a.done) : AT Ps b := by
  refine ⟨?_, ?_, ?_, ?_⟩
  · rw [h1]; exact h.cl
  · rw [h1, h2]; exact h.fr
  · rw [h1, h2]; exact h.fn
  · rw [h2, h3, h4, h5]; exact h.tr
theorem AT.push2 (h : AT Ps a) (u w : PV) : AT Ps (apush2 u w a) := by
  unfold apush2
  refine h.setT ?_ ⟨rfl, rfl⟩ (fun hd => ?_)
  · rcases hq : a.th.frs with _ | ⟨f, r⟩
    · intro g hg; cases hg
    · intro g hg
      rcases List.mem_cons.1 hg with rfl | hg
      · exact h.thM f (by rw [hq]; exact List.mem_cons_self)
      · exact h.thM g (by rw [hq]; exact List.mem_cons_of_mem _ hg)
  · rcases hq : a.th.frs with _ | ⟨f, r⟩
    · exact absurd hq (h.tr hd).ne
    · simp
/-- the thread at hand ends or yields, the one that resumed it goes on. -/
theorem AT.down (h : AT Ps a) (hd : a.done = false) {t : ATh} {c : Nat} {r : List Nat} (hs : a.stack = c :: r) (ht : ∀ f ∈ t.frs, f.clo < a.clos.length) (h1 : t.st = 5 ∨ t.st = 2 ∧ t.frs ≠ []) {b : AS} (hb : b.clos = a.clos) (hbt : b.ths = a.ths.set a.cur t) (hbc : b.cur = c) (hbs : b.stack = r) (hbd : b.done = false) :
    AT Ps (b.setT { b.th with st := 4 }) := by
  have T := h.tr hd
  have hcs := T.sk c (by rw [hs]; exact List.mem_cons_self)
  have hnd := T.nd
  rw [hs] at hnd
  have hne : c ≠ a.cur := fun e => (List.nodup_cons.1 hnd).1 (e ▸ List.mem_cons_self)
  have hbth : b.th = thA a.ths c := by
    unfold AS.th
    rw [hbt, hbc]
    exact (thA_set T.lt c).trans (if_neg hne)
  have hl : c < b.ths.length := by rw [hbt, List.length_set]; exact hcs.1
  refine ⟨by rw [show (b.setT { b.th with st := 4 }).clos = b.clos from rfl, hb]; exact h.cl, fun u hu f hf => ?_, fun u hu h3 => ?_, fun _ => ?_⟩
  · show f.clo < b.clos.length
    rw [hb]
    rcases List.mem_or_eq_of_mem_set hu with hu | rfl
    · rw [hbt] at hu
      rcases List.mem_or_eq_of_mem_set hu with hu | rfl
      · exact h.fr u hu f hf
      · exact ht f hf
    · have hf : f ∈ b.th.frs := hf
      rw [hbth] at hf
      refine h.fr (thA a.ths c) ?_ f hf
      unfold thA
      rw [List.getD_eq_getElem?_getD, List.getElem?_eq_getElem hcs.1]
      exact List.getElem_mem hcs.1
  · show u.fn < b.clos.length
    rw [hb]
    rcases List.mem_or_eq_of_mem_set hu with hu | rfl
    · rw [hbt] at hu
      rcases List.mem_or_eq_of_mem_set hu with hu | rfl
      · exact h.fn u hu h3
      · rcases h1 with h1 | h1 <;> omega
    · cases h3
  · have e : ∀ k, thA (b.setT { b.th with st := 4 }).ths k = if k = c then { thA a.ths c with st := 4 } else if k = a.cur then t else thA a.ths k := fun k => by
      show thA (b.ths.set b.cur { b.th with st := 4 }) k = _
      rw [hbc, thA_set hl, hbth, hbt, thA_set T.lt]
    have hlen : (b.setT { b.th with st := 4 }).ths.length = a.ths.length := by
      show (b.ths.set b.cur { b.th with st := 4 }).length = _
      rw [List.length_set, hbt, List.length_set]
    have hcr : ∀ k ∈ r, k ≠ c := fun k hk e => (List.nodup_cons.1 (List.nodup_cons.1 hnd).2).1 (e ▸ hk)
    have hca : ∀ k ∈ r, k ≠ a.cur := fun k hk e => (List.nodup_cons.1 hnd).1 (e ▸ List.mem_cons_of_mem _ hk)
    have hcur : (b.setT { b.th with st := 4 }).cur = c := hbc
    have hst : (b.setT { b.th with st := 4 }).stack = r := hbs
    rw [hcur, hst]
    refine ⟨by rw [hlen]; exact hcs.1, by rw [e, if_pos rfl], by rw [e, if_pos rfl]; exact hcs.2.2, fun k hk => ?_, (List.nodup_cons.1 hnd).2, ?_, fun k => ?_⟩
    · rw [hlen, e, if_neg (hcr k hk), if_neg (hca k hk)]
      exact T.sk k (by rw [hs]; exact List.mem_cons_of_mem _ hk)
    · have := T.bot
      rw [hs] at this
      rw [List.getLast?_cons_cons] at this
      exact this
    · rw [e]
      by_cases hk : k = c
      · rw [if_pos hk]; intro q; cases q
      · rw [if_neg hk]
        by_cases hk2 : k = a.cur
        · rw [if_pos hk2]
          intro q
          rcases h1 with h1 | h1
          · omega
          · exact h1.2
        · rw [if_neg hk2]; exact T.y k
end

end Go.Proofs.Qxb6500568aGreatDoor
