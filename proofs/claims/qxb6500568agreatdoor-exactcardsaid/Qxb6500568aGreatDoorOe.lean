import Derived.Test.Qxb6500568aGreatDoorOd
namespace Go.Proofs.Qxb6500568aGreatDoor
open Ieee
set_option linter.unusedVariables false
set_option linter.unusedSimpArgs false
set_option linter.unusedSectionVars false

/-! A sound step keeps the threads' shape: all instructions. -/

section
variable {Ps : List Proto} {a : AS} {v : PV}

theorem AT.newT (h : AT Ps a) {n : Nat} (hn : n < a.clos.length) : AT Ps { a with ths := a.ths ++ [⟨1, n, []⟩] } := by
  have hg : ∀ c, c < a.ths.length → thA (a.ths ++ [⟨1, n, []⟩]) c = thA a.ths c := fun c hc => by
    unfold thA
    rw [List.getD_eq_getElem?_getD, List.getD_eq_getElem?_getD, List.getElem?_append_left hc]
  refine ⟨h.cl, fun t ht f hf => ?_, fun t ht h1 => ?_, fun hd => ?_⟩
  · rcases List.mem_append.1 ht with ht | ht
    · exact h.fr t ht f hf
    · rw [List.mem_singleton.1 ht] at hf; cases hf
  · rcases List.mem_append.1 ht with ht | ht
    · exact h.fn t ht h1
    · rw [List.mem_singleton.1 ht]; exact hn
  · have T := h.tr hd
    refine ⟨by show a.cur < (a.ths ++ [_]).length; have := T.lt; simp; omega, by show (thA (a.ths ++ [_]) a.cur).st = 4; rw [hg _ T.lt]; exact T.st, by show (thA (a.ths ++ [_]) a.cur).frs ≠ []; rw [hg _ T.lt]; exact T.ne, fun c hc => ?_, T.nd, T.bot, fun c => ?_⟩
    · have := T.sk c hc
      refine ⟨by show c < (a.ths ++ [_]).length; simp; omega, ?_⟩
      show (thA (a.ths ++ [_]) c).st = 3 ∧ (thA (a.ths ++ [_]) c).frs ≠ []
      rw [hg c this.1]; exact this.2
    · show (thA (a.ths ++ [_]) c).st = 2 → (thA (a.ths ++ [_]) c).frs ≠ []
      by_cases hc : c < a.ths.length
      · rw [hg c hc]; exact T.y c
      · intro q
        exfalso
        unfold thA at q
        rw [List.getD_eq_getElem?_getD, List.getElem?_append_right (by omega)] at q
        rcases hx : c - a.ths.length with _ | k
        · rw [hx] at q; simp at q
        · rw [hx] at q; simp [ATh.zero] at q
theorem AT.newC (h : AT Ps a) {z : Nat × List Nat} (hz : z.1 < Ps.length ∧ z.2.length = (pr Ps z.1).ups.length) : AT Ps { a with clos := a.clos ++ [z] } := by
  refine ⟨fun c p ids hc => ?_, fun t ht f hf => ?_, fun t ht h1 => ?_, h.tr⟩
  · have hc : (a.clos ++ [z])[c]? = some (p, ids) := hc
    rw [List.getElem?_append] at hc
    split at hc
    · exact h.cl c p ids hc
    · rcases hx : c - a.clos.length with _ | k
      · rw [hx] at hc; simp at hc; subst hc; exact hz
      · rw [hx] at hc; simp at hc
  · show f.clo < (a.clos ++ [z]).length
    have := h.fr t ht f hf
    simp; omega
  · show t.fn < (a.clos ++ [z]).length
    have := h.fn t ht h1
    simp; omega
theorem AT.call1 (h : AT Ps a) (hd : a.done = false) {zs : List PV} {fn : PV} (hz : ∀ v ∈ zs, aok a v) (hf : aok a fn) : AT Ps (acall1 Ps zs fn a) := by
  have ha : ∀ n, aok a (zs.getD n vNil) := fun n => getD_ok hz .nil n
  have hs : ∀ (b : AS), b.clos = a.clos → b.ths = a.ths → b.cur = a.cur → b.stack = a.stack → b.done = a.done → AT Ps b := fun b h1 h2 h3 h4 h5 => h.same h1 h2 h3 h4 h5
  have T := h.tr hd
  unfold acall1
  dsimp only
  refine AT.ite (fun h5 => AT.ite (fun _ => h.raise hd _) fun _ => h.enter (hf.f h5)) fun _ => AT.ite (fun _ => h.raise hd _) fun _ => AT.ite (fun _ => AT.ite (fun _ => h.fin _ _) fun ho => (hs { a with out := a.out ++ txV (zs.getD 0 vNil) ++ [10] } rfl rfl rfl rfl rfl).push2 _ _) fun _ =>
    AT.ite (fun _ => h.push2 _ _) fun _ => AT.ite (fun _ => h.push2 _ _) fun _ => AT.ite (fun _ => h.push2 _ _) fun _ => AT.ite (fun _ => h.throw hd _) fun _ =>
    AT.ite (fun _ => AT.ite (fun _ => h.push2 _ _) fun h5 => AT.ite (fun _ => h.push2 _ _) fun _ => h.enter ((ha 0).f (by simpa using h5))) fun _ =>
    AT.ite (fun _ => AT.ite (fun _ => h.raise hd _) fun _ => ?_) fun _ => AT.ite (fun _ => AT.ite (fun _ => h.raise hd _) fun h5 => AT.ite (fun _ => h.fin _ _) fun _ => (h.newT ((ha 0).f (by simpa using h5))).push2 _ _) fun _ =>
    AT.ite (fun _ => AT.ite (fun _ => h.raise hd _) fun h7 => AT.ite (fun _ => h.push2 _ _) fun hst => h.resume hd ((ha 0).co (by simpa using h7)) ?_) fun _ =>
    AT.ite (fun _ => AT.ite (fun _ => h.raise hd _) fun h0 => ?_) fun _ => AT.ite (fun _ => AT.ite (fun _ => h.raise hd _) fun _ => h.push2 _ _) fun _ => h.raise hd _
  · split
    · exact h.raise hd _
    · exact h.push2 _ _
  · show (a.ths.getD (zs.getD 0 vNil).N ATh.zero).st = 1 ∨ (a.ths.getD (zs.getD 0 vNil).N ATh.zero).st = 2
    omega
  · rcases hk : (a.setT { a.th with st := 2 }).stack with _ | ⟨c, r⟩
    · exfalso
      have hk : a.stack = [] := hk
      have := T.bot
      rw [hk] at this
      simp at this
      exact h0 this
    · exact (h.down hd (t := { a.th with st := 2 }) (b := { a.setT { a.th with st := 2 } with stack := r, cur := c }) hk (fun f hf => h.thM f hf) (.inr ⟨rfl, T.ne⟩) rfl rfl rfl rfl hd).push2 _ _
theorem AT.call (h : AT Ps a) (hv : AV a) (hd : a.done = false) (x : Nat) : AT Ps (acall Ps x a) := by
  unfold acall
  refine AT.ite (fun _ => h.fin _ _) fun _ => ?_
  have h1 : AT Ps { a with fuel := a.fuel - 1 } := h.same rfl rfl rfl rfl rfl
  refine ((h1.ops' hd (a.fr.ops.drop (x + 1))).pc hd (a.fr.pc + 1)).call1 hd (fun w hw => ?_) ?_
  · have hw := List.mem_reverse.1 hw
    exact (aok_setF _).2 ((aok_ops _).2 (hv.frM w (List.mem_of_mem_take hw)))
  · exact (aok_setF _).2 ((aok_ops _).2 (hv.opD x))
theorem AT.jump (h : AT Ps a) (hd : a.done = false) (x : Nat) : AT Ps (ajump x a) := by
  unfold ajump
  have h1 : AT Ps { a with fuel := a.fuel - 1 } := h.same rfl rfl rfl rfl rfl
  exact AT.ite (fun _ => AT.ite (fun _ => h.fin _ _) fun _ => h1.pc hd x) fun _ => h.pc hd x
theorem AT.stt (h : AT Ps a) (hd : a.done = false) {t k w : PV} {l : List PV} :
    AT Ps (if t.T ≠ 4 then araise mIndex a else if (tSet (a.tabs.getD t.N []) k w).1 = 8 then afin 8 [45] a else if (tSet (a.tabs.getD t.N []) k w).1 ≠ 0 then araise mKey a else
      apc (a.fr.pc + 1) (aops l { a with tabs := a.tabs.set t.N (tSet (a.tabs.getD t.N []) k w).2 })) := by
  refine AT.ite (fun _ => h.raise hd _) fun _ => AT.ite (fun _ => h.fin _ _) fun _ => AT.ite (fun _ => h.raise hd _) fun _ => ?_
  have h1 : AT Ps { a with tabs := a.tabs.set t.N (tSet (a.tabs.getD t.N []) k w).2 } := h.same rfl rfl rfl rfl rfl
  exact h1.nx hd _ _
theorem AT.rss (h : AT Ps a) (hd : a.done = false) (r : Res) (l : List PV) : AT Ps (match (generalizing := false) r with | .ok v => apc (a.fr.pc + 1) (aops (v :: l) a) | .error m => araise m a) := by
  rcases r with m | u
  · exact h.raise hd m
  · exact h.nx hd _ _
theorem AT.set (h : AT Ps a) (i : Nat) (v : PV) : AT Ps (aset i v a) := h.same rfl rfl rfl rfl rfl
theorem AT.plain (h : AT Ps a) (hd : a.done = false) (op x : Nat) (h28 : op = 28 → x < Ps.length) : AT Ps (aplain Ps op x a) := by
  have nx : ∀ l, AT Ps (apc (a.fr.pc + 1) (aops l a)) := fun l => h.nx hd _ l
  unfold aplain
  dsimp only
  refine AT.ite (fun _ => nx _) fun _ => AT.ite (fun _ => nx _) fun _ => AT.ite (fun _ => nx _) fun _ => AT.ite (fun _ => nx _) fun _ => AT.ite (fun _ => nx _) fun _ =>
    AT.ite (fun _ => (h.set _ _).nx hd _ _) fun _ => AT.ite (fun _ => nx _) fun _ => AT.ite (fun _ => (h.set _ _).nx hd _ _) fun _ => AT.ite (fun _ => nx _) fun _ => AT.ite (fun _ => h.stt hd (t := vTab 0)) fun _ =>
    AT.ite (fun _ => AT.ite (fun _ => h.raise hd _) fun _ => nx _) fun _ => AT.ite (fun _ => h.stt hd) fun _ => AT.ite (fun _ => h.stt hd) fun _ =>
    AT.ite (fun _ => AT.ite (fun _ => h.fin _ _) fun h12 => ?_) fun _ => AT.ite (fun _ => h.rss hd _ _) fun _ => AT.ite (fun _ => h.rss hd _ _) fun _ =>
    AT.ite (fun _ => h.rss hd _ _) fun _ => AT.ite (fun _ => h.rss hd (unV a.tabs 2 (a.fr.ops.getD 0 vNil)) _) fun _ => AT.ite (fun _ => h.rss hd (unV a.tabs 1 (a.fr.ops.getD 0 vNil)) _) fun _ =>
    AT.ite (fun _ => h.rss hd (unV a.tabs 3 (a.fr.ops.getD 0 vNil)) _) fun _ => AT.ite (fun _ => nx _) fun _ => AT.ite (fun ho => AT.ite (fun _ => h.fin _ _) fun h24 => ?_) fun _ =>
    AT.ite (fun _ => (h.close hd x).nx hd _ _) fun _ => AT.ite (fun _ => AT.ite (fun _ => AT.ite (fun _ => h.raise hd _) fun _ => nx _) fun _ => h.raise hd _) fun _ => AT.ite (fun _ => nx _) fun _ =>
    AT.ite (fun _ => AT.ite (fun _ => h.raise hd _) fun _ => ?_) fun _ => h
  · have h1 : AT Ps { a with tabs := a.tabs ++ [[]] } := h.same rfl rfl rfl rfl rfl
    exact h1.nx hd _ _
  · have h1 := h.newC (z := (x, aups a (Ps.getD x Proto.zero).ups)) ⟨h28 ho, by unfold aups; rw [List.length_map]; rfl⟩
    exact h1.nx hd _ _
  · split
    · exact h.raise hd _
    · exact (((h.set _ _).set _ _).set _ _).nx hd _ _
theorem AT.step (h : AT Ps a) (hv : AV a) {op x : Nat} (hS : Snd Ps a op x) : AT Ps (astep Ps a) := by
  have hd := hS.d
  have hc : (Ps.getD (a.clos.getD a.fr.clo (0, [])).1 Proto.zero).code[a.fr.pc]? = some (op, x) := hS.c
  unfold astep
  dsimp only
  rw [hc]
  dsimp only
  have h28 : op = 28 → x < Ps.length := fun e => (hS.r.2.2.2.2.2.2.2.2.2.2.2.2 e).1
  refine AT.ite (fun _ => h.jump hd x) fun _ => AT.ite (fun _ => AT.ite (fun _ => h.nx hd _ _) fun _ => (h.ops' hd _).jump hd x) fun _ => AT.ite (fun _ => AT.ite (fun _ => h.jump hd x) fun _ => h.nx hd _ _) fun _ =>
    AT.ite (fun _ => h.call hv hd x) fun _ => AT.ite (fun _ => h.ret hd _ _) fun _ => h.plain hd op x h28
end

end Go.Proofs.Qxb6500568aGreatDoor
