import Derived.Test.Qxb6500568aGreatDoorLh
namespace Go.Proofs.Qxb6500568aGreatDoor
open Ieee
set_option linter.unusedVariables false
set_option linter.unusedSimpArgs false
set_option linter.unusedSectionVars false

/-! One instruction of the machine, its top frame in hand. -/

/-- the state a whose thread at hand is y with the frames f :: fs, and whose variables are vars. -/
def mkA (a : AS) (y : ATh) (fs : List AFr) (f : AFr) (vars : List PV) : AS := { a with ths := a.ths.set a.cur { y with frs := f :: fs }, vars := vars }

section
variable {Ps : List Proto} {a : AS} {y : ATh} {fs : List AFr} {f : AFr} {vars : List PV}

theorem mk_self (hy : a.ths[a.cur]? = some y) (hf : y.frs = f :: fs) : mkA a y fs f a.vars = a := by
  unfold mkA
  have : ({ y with frs := f :: fs } : ATh) = y := by rw [← hf]
  rw [this]
  have hl := (List.getElem?_eq_some_iff.1 hy)
  obtain ⟨hl, he⟩ := hl
  rw [← he, List.set_getElem_self]
theorem mk_th (hc : a.cur < a.ths.length) : (mkA a y fs f vars).th = { y with frs := f :: fs } := by
  unfold AS.th mkA; simp [List.getD_eq_getElem?_getD, hc]
theorem mk_fr (hc : a.cur < a.ths.length) : (mkA a y fs f vars).fr = f := by unfold AS.fr; rw [mk_th hc]; rfl
theorem mk_setF (hc : a.cur < a.ths.length) (f' : AFr) : (mkA a y fs f vars).setF f' = mkA a y fs f' vars := by
  unfold AS.setF AS.setT; rw [mk_th hc]; unfold mkA; simp
theorem mk_setT (hc : a.cur < a.ths.length) (t : ATh) : (mkA a y fs f vars).setT t = { a with ths := a.ths.set a.cur t, vars := vars } := by
  unfold AS.setT mkA; simp
theorem mk_pc (hc : a.cur < a.ths.length) (x : Nat) : apc x (mkA a y fs f vars) = mkA a y fs { f with pc := x } vars := by
  unfold apc; rw [mk_fr hc, mk_setF hc]
theorem mk_ops (hc : a.cur < a.ths.length) (l : List PV) : aops l (mkA a y fs f vars) = mkA a y fs { f with ops := l } vars := by
  unfold aops; rw [mk_fr hc, mk_setF hc]
theorem mk_pro (hc : a.cur < a.ths.length) {j : Nat} {ids : List Nat} (hk : a.clos[f.clo]? = some (j, ids)) : (mkA a y fs f vars).pro = j := by
  unfold AS.pro; rw [mk_fr hc]; show (a.clos.getD f.clo (0, [])).1 = j; rw [List.getD_eq_getElem?_getD, hk]; rfl
theorem mk_pro2 {j : Nat} {ids : List Nat} (hk : a.clos[f.clo]? = some (j, ids)) : ((mkA a y fs f vars).clos.getD f.clo (0, [])).1 = j := by
  show (a.clos.getD f.clo (0, [])).1 = j; rw [List.getD_eq_getElem?_getD, hk]; rfl
theorem mk_ids (hc : a.cur < a.ths.length) {j : Nat} {ids : List Nat} (hk : a.clos[f.clo]? = some (j, ids)) : (mkA a y fs f vars).ids = ids := by
  unfold AS.ids; rw [mk_fr hc]; show (a.clos.getD f.clo (0, [])).2 = ids; rw [List.getD_eq_getElem?_getD, hk]; rfl
theorem mk_slot (hc : a.cur < a.ths.length) (x : Nat) : (mkA a y fs f vars).slot x = f.slots.getD x 0 := by unfold AS.slot; rw [mk_fr hc]
theorem mk_up (hc : a.cur < a.ths.length) {j : Nat} {ids : List Nat} (hk : a.clos[f.clo]? = some (j, ids)) (x : Nat) : (mkA a y fs f vars).up x = ids.getD x 0 := by
  have := mk_ids (y := y) (fs := fs) (vars := vars) hc hk
  unfold AS.ids at this; unfold AS.up; rw [this]

theorem rng_none {op x : Nat} (h : op ∈ [2, 3, 4, 11, 12, 13, 14, 17, 18, 19, 20, 25, 27]) : rngO Ps a op x := by
  simp only [List.mem_cons, List.not_mem_nil, or_false] at h
  refine ⟨by omega, by omega, ?_, ?_, ?_, ?_, ?_, ?_, ?_, ?_, ?_, ?_, ?_⟩ <;> intro h' <;> exfalso <;> omega
theorem rng1 {x : Nat} (h : x < (pr Ps a.pro).ks.length) : rngO Ps a 1 x := by
  refine ⟨by omega, by omega, fun _ => h, ?_, ?_, ?_, ?_, ?_, ?_, ?_, ?_, ?_, ?_⟩ <;> intro h' <;> exfalso <;> omega
theorem rng9 {op x : Nat} (ho : op = 9 ∨ op = 10) {s : Str} (h : (pr Ps a.pro).ks[x]? = some (vStr s)) : rngO Ps a op x := by
  refine ⟨by omega, by omega, ?_, fun _ => ⟨s, h⟩, ?_, ?_, ?_, ?_, ?_, ?_, ?_, ?_, ?_⟩ <;> intro h' <;> exfalso <;> omega
theorem rng5 {op x : Nat} (ho : op = 5 ∨ op = 6) (h : x < (pr Ps a.pro).ns) : rngO Ps a op x := by
  refine ⟨by omega, by omega, ?_, ?_, fun _ => h, ?_, ?_, ?_, ?_, ?_, ?_, ?_, ?_⟩ <;> intro h' <;> exfalso <;> omega
theorem rng7 {op x : Nat} (ho : op = 7 ∨ op = 8) (h : x < a.ids.length) : rngO Ps a op x := by
  refine ⟨by omega, by omega, ?_, ?_, ?_, fun _ => h, ?_, ?_, ?_, ?_, ?_, ?_, ?_⟩ <;> intro h' <;> exfalso <;> omega
theorem rng15 {op x : Nat} (ho : op = 15 ∨ op = 16) (h : 1 ≤ x ∧ x ≤ 6) : rngO Ps a op x := by
  refine ⟨by omega, by omega, ?_, ?_, ?_, ?_, fun _ => h, ?_, ?_, ?_, ?_, ?_, ?_⟩ <;> intro h' <;> exfalso <;> omega
theorem rng21 {op x : Nat} (ho : op = 21 ∨ op = 22 ∨ op = 23 ∨ op = 24) (h : ∃ i, cod Ps a.pro x = some i) : rngO Ps a op x := by
  obtain ⟨i, hi⟩ := h
  refine ⟨by omega, by omega, ?_, ?_, ?_, ?_, ?_, fun _ => (List.getElem?_eq_some_iff.1 hi).1, ?_, ?_, ?_, ?_, ?_⟩ <;> intro h' <;> exfalso <;> omega
theorem rng26 {x : Nat} (h : x ≤ 3) : rngO Ps a 26 x := by
  refine ⟨by omega, by omega, ?_, ?_, ?_, ?_, ?_, ?_, fun _ => h, ?_, ?_, ?_, ?_⟩ <;> intro h' <;> exfalso <;> omega
theorem rng29 {x : Nat} (h : x ≤ (pr Ps a.pro).ns) : rngO Ps a 29 x := by
  refine ⟨by omega, by omega, ?_, ?_, ?_, ?_, ?_, ?_, ?_, fun _ => h, ?_, ?_, ?_⟩ <;> intro h' <;> exfalso <;> omega
theorem rng30 {op x : Nat} (ho : op = 30 ∨ op = 32) (h : x + 3 < (pr Ps a.pro).ns) : rngO Ps a op x := by
  refine ⟨by omega, by omega, ?_, ?_, ?_, ?_, ?_, ?_, ?_, ?_, fun _ => h, ?_, ?_⟩ <;> intro h' <;> exfalso <;> omega
theorem rng31 {x : Nat} (h : x + 3 < (pr Ps a.pro).ns) (h2 : (a.var (a.slot x)).T = 2 ∧ (a.var (a.slot (x + 1))).T = 2 ∧ (a.var (a.slot (x + 2))).T = 2) : rngO Ps a 31 x := by
  refine ⟨by omega, by omega, ?_, ?_, ?_, ?_, ?_, ?_, ?_, ?_, fun _ => h, fun _ => h2, ?_⟩ <;> intro h' <;> exfalso <;> omega
theorem rng28 {x : Nat} (h : x < Ps.length ∧ ∀ d ∈ (pr Ps x).ups, (d.1 = 1 ∧ d.2 < (pr Ps a.pro).ns) ∨ (d.1 = 0 ∧ d.2 < a.ids.length)) : rngO Ps a 28 x := by
  refine ⟨by omega, by omega, ?_, ?_, ?_, ?_, ?_, ?_, ?_, ?_, ?_, ?_, fun _ => h⟩ <;> intro h' <;> exfalso <;> omega


theorem snd_mk {j : Nat} {ids : List Nat} (hc : a.cur < a.ths.length) (hd : a.done = false) (hk : a.clos[f.clo]? = some (j, ids)) {op x : Nat} (h1 : cod Ps j f.pc = some (op, x)) (h2 : rngO Ps (mkA a y fs f vars) op x) (h3 : needO op x ≤ f.ops.length) (h4 : f.ops.length ≤ 128) (h5 : growsO op = true → f.ops.length < 128) (h6 : op = 26 → f.ops.length + 1 ≤ 128 + x) : Snd Ps (mkA a y fs f vars) op x :=
  ⟨hd, by rw [mk_pro hc hk, mk_fr hc]; exact h1, h2, by rw [mk_fr hc]; exact h3, by rw [mk_fr hc]; exact ⟨h4, h5, h6⟩⟩

theorem step_mk {j : Nat} {ids : List Nat} (hc : a.cur < a.ths.length) (hd : a.done = false) (hk : a.clos[f.clo]? = some (j, ids)) {op x : Nat} (h1 : cod Ps j f.pc = some (op, x)) (h21 : op ≠ 21) (h22 : op ≠ 22) (h23 : op ≠ 23) (h24 : op ≠ 24) (h26 : op ≠ 26) (h27 : op ≠ 27) : astep Ps (mkA a y fs f vars) = aplain Ps op x (mkA a y fs f vars) := by
  have hp := mk_pro2 (y := y) (fs := fs) (vars := vars) hk
  unfold astep
  simp only [hp, mk_fr hc]
  have : (Ps.getD j Proto.zero).code[f.pc]? = some (op, x) := h1
  rw [this]
  simp [h21, h22, h23, h24, h26, h27]

/-- what pushes one known value. -/
theorem go_push {j : Nat} {ids : List Nat} (hc : a.cur < a.ths.length) (hd : a.done = false) (hk : a.clos[f.clo]? = some (j, ids)) {op x : Nat} {v : PV} (h1 : cod Ps j f.pc = some (op, x)) (hop : (op = 2 ∧ v = vNil) ∨ (op = 3 ∧ v = vBool true) ∨ (op = 4 ∧ v = vBool false) ∨ (op = 1 ∧ con Ps j x = some v)) (h4 : f.ops.length < 128) :
    Go Ps (mkA a y fs f vars) (mkA a y fs { f with ops := v :: f.ops, pc := f.pc + 1 } vars) := by
  have hs : Snd Ps (mkA a y fs f vars) op x := by
    refine snd_mk hc hd hk h1 ?_ ?_ (by omega) (fun _ => h4) (by omega)
    · rcases hop with h | h | h | h
      · exact rng_none (by simp [h.1])
      · exact rng_none (by simp [h.1])
      · exact rng_none (by simp [h.1])
      · rw [h.1]; refine rng1 ?_; rw [mk_pro hc hk]; exact (List.getElem?_eq_some_iff.1 h.2).1
    · unfold needO; rcases hop with h | h | h | h <;> simp [h.1]
  have he : astep Ps (mkA a y fs f vars) = mkA a y fs { f with ops := v :: f.ops, pc := f.pc + 1 } vars := by
    rw [step_mk hc hd hk h1 (by omega) (by omega) (by omega) (by omega) (by omega) (by omega)]
    have hp := mk_pro2 (y := y) (fs := fs) (vars := vars) hk
    unfold aplain
    simp only [hp, mk_fr hc, mk_ops hc, mk_pc hc]
    rcases hop with h | h | h | h
    · simp [h.1, h.2]
    · simp [h.1, h.2]
    · simp [h.1, h.2]
    · have : (Ps.getD j Proto.zero).ks[x]? = some v := h.2
      simp [h.1, List.getD_eq_getElem?_getD] at this ⊢
      simp [this]
  rw [← he]; exact .one hs
theorem go_getl {j : Nat} {ids : List Nat} (hc : a.cur < a.ths.length) (hd : a.done = false) (hk : a.clos[f.clo]? = some (j, ids)) {x : Nat} (h1 : cod Ps j f.pc = some (5, x)) (hx : x < (pr Ps j).ns) (h4 : f.ops.length < 128) :
    Go Ps (mkA a y fs f vars) (mkA a y fs { f with ops := vars.getD (f.slots.getD x 0) vNil :: f.ops, pc := f.pc + 1 } vars) := by
  have hs : Snd Ps (mkA a y fs f vars) 5 x := snd_mk hc hd hk h1 (rng5 (.inl rfl) (by rw [mk_pro hc hk]; exact hx)) (by simp [needO]) (by omega) (fun _ => h4) (by omega)
  have he : astep Ps (mkA a y fs f vars) = mkA a y fs { f with ops := vars.getD (f.slots.getD x 0) vNil :: f.ops, pc := f.pc + 1 } vars := by
    rw [step_mk hc hd hk h1 (by omega) (by omega) (by omega) (by omega) (by omega) (by omega)]
    unfold aplain
    simp only [mk_fr hc, mk_ops hc, mk_pc hc, mk_slot hc]
    rfl
  rw [← he]; exact .one hs
theorem mk_aset {j : Nat} {ids : List Nat} (hc : a.cur < a.ths.length) (hd : a.done = false) (hk : a.clos[f.clo]? = some (j, ids)) (i : Nat) (v : PV) : aset i v (mkA a y fs f vars) = mkA a y fs f (vars.set i v) := rfl
theorem go_setl {j : Nat} {ids : List Nat} (hc : a.cur < a.ths.length) (hd : a.done = false) (hk : a.clos[f.clo]? = some (j, ids)) {x : Nat} {v : PV} {l : List PV} (ho : f.ops = v :: l) (h1 : cod Ps j f.pc = some (6, x)) (hx : x < (pr Ps j).ns) (h4 : f.ops.length ≤ 128) :
    Go Ps (mkA a y fs f vars) (mkA a y fs { f with ops := l, pc := f.pc + 1 } (vars.set (f.slots.getD x 0) v)) := by
  have hs : Snd Ps (mkA a y fs f vars) 6 x := snd_mk hc hd hk h1 (rng5 (.inr rfl) (by rw [mk_pro hc hk]; exact hx)) (by simp [needO, ho]) (by omega) (fun h => by simp [growsO] at h) (by omega)
  have he : astep Ps (mkA a y fs f vars) = mkA a y fs { f with ops := l, pc := f.pc + 1 } (vars.set (f.slots.getD x 0) v) := by
    rw [step_mk hc hd hk h1 (by omega) (by omega) (by omega) (by omega) (by omega) (by omega)]
    unfold aplain
    simp only [mk_fr hc, mk_slot hc, mk_aset hc hd hk, ho]
    simp only [mk_ops hc, mk_pc hc]
    rfl
  rw [← he]; exact .one hs
theorem go_getu {j : Nat} {ids : List Nat} (hc : a.cur < a.ths.length) (hd : a.done = false) (hk : a.clos[f.clo]? = some (j, ids)) {x : Nat} (h1 : cod Ps j f.pc = some (7, x)) (hx : x < ids.length) (h4 : f.ops.length < 128) :
    Go Ps (mkA a y fs f vars) (mkA a y fs { f with ops := vars.getD (ids.getD x 0) vNil :: f.ops, pc := f.pc + 1 } vars) := by
  have hs : Snd Ps (mkA a y fs f vars) 7 x := snd_mk hc hd hk h1 (rng7 (.inl rfl) (by rw [mk_ids hc hk]; exact hx)) (by simp [needO]) (by omega) (fun _ => h4) (by omega)
  have he : astep Ps (mkA a y fs f vars) = mkA a y fs { f with ops := vars.getD (ids.getD x 0) vNil :: f.ops, pc := f.pc + 1 } vars := by
    rw [step_mk hc hd hk h1 (by omega) (by omega) (by omega) (by omega) (by omega) (by omega)]
    unfold aplain
    simp only [mk_fr hc, mk_ops hc, mk_pc hc, mk_up hc hk]
    rfl
  rw [← he]; exact .one hs
theorem go_setu {j : Nat} {ids : List Nat} (hc : a.cur < a.ths.length) (hd : a.done = false) (hk : a.clos[f.clo]? = some (j, ids)) {x : Nat} {v : PV} {l : List PV} (ho : f.ops = v :: l) (h1 : cod Ps j f.pc = some (8, x)) (hx : x < ids.length) (h4 : f.ops.length ≤ 128) :
    Go Ps (mkA a y fs f vars) (mkA a y fs { f with ops := l, pc := f.pc + 1 } (vars.set (ids.getD x 0) v)) := by
  have hs : Snd Ps (mkA a y fs f vars) 8 x := snd_mk hc hd hk h1 (rng7 (.inr rfl) (by rw [mk_ids hc hk]; exact hx)) (by simp [needO, ho]) (by omega) (fun h => by simp [growsO] at h) (by omega)
  have he : astep Ps (mkA a y fs f vars) = mkA a y fs { f with ops := l, pc := f.pc + 1 } (vars.set (ids.getD x 0) v) := by
    rw [step_mk hc hd hk h1 (by omega) (by omega) (by omega) (by omega) (by omega) (by omega)]
    unfold aplain
    simp only [mk_fr hc, mk_up hc hk, mk_aset hc hd hk, ho]
    simp only [mk_ops hc, mk_pc hc]
    rfl
  rw [← he]; exact .one hs
theorem go_getg {j : Nat} {ids : List Nat} (hc : a.cur < a.ths.length) (hd : a.done = false) (hk : a.clos[f.clo]? = some (j, ids)) {x : Nat} {s : Str} (h1 : cod Ps j f.pc = some (9, x)) (hx : con Ps j x = some (vStr s)) (h4 : f.ops.length < 128) :
    Go Ps (mkA a y fs f vars) (mkA a y fs { f with ops := tGet (a.tabs.getD 0 []) (vStr s) :: f.ops, pc := f.pc + 1 } vars) := by
  have hs : Snd Ps (mkA a y fs f vars) 9 x := snd_mk hc hd hk h1 (rng9 (.inl rfl) (by rw [mk_pro hc hk]; exact hx)) (by simp [needO]) (by omega) (fun _ => h4) (by omega)
  have he : astep Ps (mkA a y fs f vars) = mkA a y fs { f with ops := tGet (a.tabs.getD 0 []) (vStr s) :: f.ops, pc := f.pc + 1 } vars := by
    rw [step_mk hc hd hk h1 (by omega) (by omega) (by omega) (by omega) (by omega) (by omega)]
    have hp := mk_pro2 (y := y) (fs := fs) (vars := vars) hk
    have hx' : (Ps.getD j Proto.zero).ks.getD x vNil = vStr s := by rw [List.getD_eq_getElem?_getD]; show ((pr Ps j).ks[x]?).getD vNil = _; unfold con at hx; rw [hx]; rfl
    unfold aplain
    simp only [hp, mk_fr hc, mk_ops hc, mk_pc hc, hx']
    rfl
  rw [← he]; exact .one hs
theorem go_pop {j : Nat} {ids : List Nat} (hc : a.cur < a.ths.length) (hd : a.done = false) (hk : a.clos[f.clo]? = some (j, ids)) {v : PV} {l : List PV} (ho : f.ops = v :: l) (h1 : cod Ps j f.pc = some (25, 0)) (h4 : f.ops.length ≤ 128) :
    Go Ps (mkA a y fs f vars) (mkA a y fs { f with ops := l, pc := f.pc + 1 } vars) := by
  have hs : Snd Ps (mkA a y fs f vars) 25 0 := snd_mk hc hd hk h1 (rng_none (by simp)) (by simp [needO, ho]) (by omega) (fun h => by simp [growsO] at h) (by omega)
  have he : astep Ps (mkA a y fs f vars) = mkA a y fs { f with ops := l, pc := f.pc + 1 } vars := by
    rw [step_mk hc hd hk h1 (by omega) (by omega) (by omega) (by omega) (by omega) (by omega)]
    unfold aplain
    simp only [mk_fr hc, mk_ops hc, mk_pc hc, ho]
    rfl
  rw [← he]; exact .one hs
theorem go_jmp {j : Nat} {ids : List Nat} (hc : a.cur < a.ths.length) (hd : a.done = false) (hk : a.clos[f.clo]? = some (j, ids)) {x : Nat} (h1 : cod Ps j f.pc = some (21, x)) (hx : f.pc < x) (hq : ∃ i, cod Ps j x = some i) (h4 : f.ops.length ≤ 128) :
    Go Ps (mkA a y fs f vars) (mkA a y fs { f with pc := x } vars) := by
  have hs : Snd Ps (mkA a y fs f vars) 21 x := snd_mk hc hd hk h1 (rng21 (.inl rfl) (by rw [mk_pro hc hk]; exact hq)) (by simp [needO]) (by omega) (fun h => by simp [growsO] at h) (by omega)
  have he : astep Ps (mkA a y fs f vars) = mkA a y fs { f with pc := x } vars := by
    have hp := mk_pro2 (y := y) (fs := fs) (vars := vars) hk
    unfold astep
    have h1' : (Ps.getD j Proto.zero).code[f.pc]? = some (21, x) := h1
    simp only [hp, mk_fr hc, h1', if_true]
    unfold ajump
    rw [mk_fr hc, if_neg (by omega), mk_pc hc]
  rw [← he]; exact .one hs
/-- a jump back burns. -/
theorem go_back {j : Nat} {ids : List Nat} (hc : a.cur < a.ths.length) (hd : a.done = false) (hk : a.clos[f.clo]? = some (j, ids)) {x : Nat} (h1 : cod Ps j f.pc = some (21, x)) (hx : x ≤ f.pc) (hq : ∃ i, cod Ps j x = some i) (h4 : f.ops.length ≤ 128) :
    Go Ps (mkA a y fs f vars) (if a.fuel = 0 then afin 9 [45] (mkA a y fs f vars) else { mkA a y fs { f with pc := x } vars with fuel := a.fuel - 1 }) := by
  have hs : Snd Ps (mkA a y fs f vars) 21 x := snd_mk hc hd hk h1 (rng21 (.inl rfl) (by rw [mk_pro hc hk]; exact hq)) (by simp [needO]) (by omega) (fun h => by simp [growsO] at h) (by omega)
  have he : astep Ps (mkA a y fs f vars) = (if a.fuel = 0 then afin 9 [45] (mkA a y fs f vars) else { mkA a y fs { f with pc := x } vars with fuel := a.fuel - 1 }) := by
    have hp := mk_pro2 (y := y) (fs := fs) (vars := vars) hk
    unfold astep
    have h1' : (Ps.getD j Proto.zero).code[f.pc]? = some (21, x) := h1
    simp only [hp, mk_fr hc, h1', if_true]
    unfold ajump
    rw [mk_fr hc, if_pos hx]
    show (if a.fuel = 0 then _ else _) = _
    by_cases h0 : a.fuel = 0
    · rw [if_pos h0, if_pos h0]
    · rw [if_neg h0, if_neg h0]
      unfold apc
      have hc' : ({ mkA a y fs f vars with fuel := (mkA a y fs f vars).fuel - 1 } : AS) = mkA { a with fuel := a.fuel - 1 } y fs f vars := rfl
      rw [hc', mk_fr (a := { a with fuel := a.fuel - 1 }) hc, mk_setF (a := { a with fuel := a.fuel - 1 }) hc]
      rfl
  rw [← he]; exact .one hs
theorem go_jf {j : Nat} {ids : List Nat} (hc : a.cur < a.ths.length) (hd : a.done = false) (hk : a.clos[f.clo]? = some (j, ids)) {x : Nat} {v : PV} {l : List PV} (ho : f.ops = v :: l) (h1 : cod Ps j f.pc = some (22, x)) (hx : f.pc < x) (hq : ∃ i, cod Ps j x = some i) (h4 : f.ops.length ≤ 128) :
    Go Ps (mkA a y fs f vars) (mkA a y fs { f with ops := l, pc := if trV v then f.pc + 1 else x } vars) := by
  have hs : Snd Ps (mkA a y fs f vars) 22 x := snd_mk hc hd hk h1 (rng21 (by simp) (by rw [mk_pro hc hk]; exact hq)) (by simp [needO, ho]) (by omega) (fun h => by simp [growsO] at h) (by omega)
  have he : astep Ps (mkA a y fs f vars) = mkA a y fs { f with ops := l, pc := if trV v then f.pc + 1 else x } vars := by
    have hp := mk_pro2 (y := y) (fs := fs) (vars := vars) hk
    unfold astep
    have h1' : (Ps.getD j Proto.zero).code[f.pc]? = some (22, x) := h1
    simp only [hp, mk_fr hc, h1', ho, List.headD_cons, List.tail_cons]
    rw [if_neg (by omega)]
    simp only [if_true]
    by_cases ht : trV v = true
    · rw [if_pos ht, if_pos ht, mk_ops hc, mk_pc hc]
    · rw [if_neg ht, if_neg ht]
      unfold ajump
      rw [mk_ops hc, mk_fr hc, if_neg (by show ¬ x ≤ f.pc; omega), mk_pc hc]
  rw [← he]; exact .one hs
theorem go_short {j : Nat} {ids : List Nat} (hc : a.cur < a.ths.length) (hd : a.done = false) (hk : a.clos[f.clo]? = some (j, ids)) {op x : Nat} {v : PV} {l : List PV} (ho : f.ops = v :: l) (hop : op = 23 ∨ op = 24) (h1 : cod Ps j f.pc = some (op, x)) (hx : f.pc < x) (hq : ∃ i, cod Ps j x = some i) (h4 : f.ops.length ≤ 128) :
    Go Ps (mkA a y fs f vars) (if trV v = decide (op = 24) then mkA a y fs { f with pc := x } vars else mkA a y fs { f with ops := l, pc := f.pc + 1 } vars) := by
  have hs : Snd Ps (mkA a y fs f vars) op x := snd_mk hc hd hk h1 (rng21 (by omega) (by rw [mk_pro hc hk]; exact hq)) (by rcases hop with h | h <;> simp [needO, ho, h]) (by omega) (fun h => by rcases hop with h' | h' <;> simp [growsO, h'] at h) (by omega)
  have he : astep Ps (mkA a y fs f vars) = (if trV v = decide (op = 24) then mkA a y fs { f with pc := x } vars else mkA a y fs { f with ops := l, pc := f.pc + 1 } vars) := by
    have hp := mk_pro2 (y := y) (fs := fs) (vars := vars) hk
    unfold astep
    have h1' : (Ps.getD j Proto.zero).code[f.pc]? = some (op, x) := h1
    simp only [hp, mk_fr hc, h1', ho]
    rw [if_neg (by omega), if_neg (by omega), if_pos hop]
    simp only [List.headD_cons, List.tail_cons]
    by_cases ht : trV v = decide (op = 24)
    · rw [if_pos ht]
      refine (if_pos ht).trans ?_
      unfold ajump
      rw [mk_fr hc, if_neg (by omega), mk_pc hc, ho]
    · rw [if_neg ht]
      refine (if_neg ht).trans ?_
      rw [mk_ops hc, mk_pc hc]
  rw [← he]; exact .one hs
theorem go_close {j : Nat} {ids : List Nat} (hc : a.cur < a.ths.length) (hd : a.done = false) (hk : a.clos[f.clo]? = some (j, ids)) {x : Nat} (h1 : cod Ps j f.pc = some (29, x)) (hx : x ≤ (pr Ps j).ns) (h4 : f.ops.length ≤ 128) :
    Go Ps (mkA a y fs f vars) (mkA a y fs { f with slots := f.slots.take x ++ (List.range (f.slots.length - x)).map (vars.length + ·), pc := f.pc + 1 } (vars ++ (f.slots.drop x).map fun s => vars.getD s vNil)) := by
  have hs : Snd Ps (mkA a y fs f vars) 29 x := snd_mk hc hd hk h1 (rng29 (by rw [mk_pro hc hk]; exact hx)) (by simp [needO]) (by omega) (fun h => by simp [growsO] at h) (by omega)
  have he : astep Ps (mkA a y fs f vars) = mkA a y fs { f with slots := f.slots.take x ++ (List.range (f.slots.length - x)).map (vars.length + ·), pc := f.pc + 1 } (vars ++ (f.slots.drop x).map fun s => vars.getD s vNil) := by
    rw [step_mk hc hd hk h1 (by omega) (by omega) (by omega) (by omega) (by omega) (by omega)]
    have hcl : aclose x (mkA a y fs f vars) = mkA a y fs { f with slots := f.slots.take x ++ (List.range (f.slots.length - x)).map (vars.length + ·) } (vars ++ (f.slots.drop x).map fun s => vars.getD s vNil) := by
      unfold aclose anew
      simp only [mk_fr hc]
      have hv : ∀ s, (mkA a y fs f vars).var s = vars.getD s vNil := fun s => rfl
      have e2 : ({ mkA a y fs f vars with vars := (mkA a y fs f vars).vars ++ List.map (mkA a y fs f vars).var (List.drop x f.slots) } : AS) = mkA a y fs f (vars ++ (f.slots.drop x).map fun s => vars.getD s vNil) := rfl
      rw [e2, mk_fr hc, mk_setF hc]
      simp only [List.length_map, List.length_drop]
      rfl
    unfold aplain
    simp only [mk_fr hc, hcl, mk_ops hc, mk_pc hc]
    rfl
  rw [← he]; exact .one hs
end

end Go.Proofs.Qxb6500568aGreatDoor
