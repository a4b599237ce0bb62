import Derived.Test.Qxb6500568aGreatDoorLg
namespace Go.Proofs.Qxb6500568aGreatDoor
open Ieee
set_option linter.unusedVariables false
set_option linter.unusedSimpArgs false

/-! The interpreter's state against the machine's. -/

/-- the chain of variables from e on: names and places in the list. -/
def Ch (es : List Env) : Nat → List (Str × Nat) → Prop
  | e, [] => e = 0
  | e, p :: l => ∃ k x, e = k + 1 ∧ es[k]? = some x ∧ x.up ≤ k ∧ p = (x.name, k) ∧ Ch es x.up l
theorem Ch.nil {es : List Env} : Ch es 0 [] := rfl
theorem Ch.cons {es : List Env} {e : Nat} {x : Env} {l : List (Str × Nat)} (h1 : es[e]? = some x) (h2 : x.up ≤ e) (h3 : Ch es x.up l) : Ch es (e + 1) ((x.name, e) :: l) := ⟨e, x, rfl, h1, h2, rfl, h3⟩
def Bd (es : List Env) (ρ : List Nat) (e : Nat) (D : List (Str × Nat)) : Prop := ∃ l, Ch es e l ∧ l.map (fun p => (p.1, ρ.getD p.2 0)) = D

def EnvExt (es es' : List Env) : Prop := ∀ (k : Nat) x, es[k]? = some x → ∃ y, es'[k]? = some y ∧ y.name = x.name ∧ y.up = x.up
theorem EnvExt.refl (es : List Env) : EnvExt es es := fun k x h => ⟨x, h, rfl, rfl⟩
theorem EnvExt.trans {a b c : List Env} (h : EnvExt a b) (k : EnvExt b c) : EnvExt a c := fun n x hx => by
  obtain ⟨y, h1, h2, h3⟩ := h n x hx
  obtain ⟨z, k1, k2, k3⟩ := k n y h1
  exact ⟨z, k1, k2.trans h2, k3.trans h3⟩
theorem EnvExt.app (es r : List Env) : EnvExt es (es ++ r) := fun k x h => ⟨x, by rw [List.getElem?_append_left (List.getElem?_eq_some_iff.1 h).1]; exact h, rfl, rfl⟩
theorem EnvExt.set (es : List Env) (k : Nat) (v : PV) : EnvExt es (es.modify k fun x => { x with v := v }) := fun n x h => by
  rw [List.getElem?_modify]
  by_cases hk : k = n
  · subst hk; rw [h]; exact ⟨{ x with v := v }, by simp, rfl, rfl⟩
  · exact ⟨x, by simp [hk, h], rfl, rfl⟩

theorem Ch.le {es : List Env} {e : Nat} : ∀ {l : List (Str × Nat)}, Ch es e l → e ≤ es.length
  | [], h => by have h : e = 0 := h; omega
  | _ :: _, ⟨k, x, h0, h1, _⟩ => by have := (List.getElem?_eq_some_iff.1 h1).1; omega
theorem Ch.mem {es : List Env} : ∀ {l : List (Str × Nat)} {e : Nat}, Ch es e l → ∀ p ∈ l, ∃ x, es[p.2]? = some x ∧ x.name = p.1
  | [], _, _, p, hp => by cases hp
  | q :: l, _, ⟨k, x, h0, h1, h2, h3, h4⟩, p, hp => by
    rcases List.mem_cons.1 hp with rfl | hp
    · exact ⟨x, by rw [h3]; exact h1, by rw [h3]⟩
    · exact Ch.mem h4 p hp
theorem Ch.mono {es es' : List Env} (hE : EnvExt es es') : ∀ {l : List (Str × Nat)} {e : Nat}, Ch es e l → Ch es' e l
  | [], _, h => h
  | q :: l, _, ⟨k, x, h0, h1, h2, h3, h4⟩ => by
    obtain ⟨y, k1, k2, k3⟩ := hE _ _ h1
    exact ⟨k, y, h0, k1, by rw [k3]; exact h2, by rw [k2]; exact h3, by rw [k3]; exact Ch.mono hE h4⟩
theorem Bd.mono {es es' : List Env} {ρ ρ' : List Nat} (hE : EnvExt es es') (hr : ∀ k, k < es.length → ρ'.getD k 0 = ρ.getD k 0) {e : Nat} {D : List (Str × Nat)} (h : Bd es ρ e D) : Bd es' ρ' e D := by
  obtain ⟨l, h1, h2⟩ := h
  refine ⟨l, h1.mono hE, ?_⟩
  rw [← h2]
  apply List.map_congr_left
  intro p hp
  obtain ⟨x, hx, -⟩ := h1.mem p hp
  rw [hr _ (List.getElem?_eq_some_iff.1 hx).1]
theorem Bd.new {es : List Env} {ρ : List Nat} {nm : Str} {v : PV} {up id : Nat} {D : List (Str × Nat)} (h : Bd es ρ up D) (hl : ρ.length = es.length) : Bd (es ++ [⟨nm, v, up⟩]) (ρ ++ [id]) (es.length + 1) ((nm, id) :: D) := by
  obtain ⟨l, h1, h2⟩ := h
  refine ⟨(nm, es.length) :: l, .cons (x := ⟨nm, v, up⟩) (by simp) h1.le (h1.mono (EnvExt.app _ _)), ?_⟩
  simp only [List.map_cons, List.cons.injEq, Prod.mk.injEq, true_and]
  refine ⟨by rw [← hl]; simp [List.getD_eq_getElem?_getD], ?_⟩
  rw [← h2]
  apply List.map_congr_left
  intro p hp
  obtain ⟨x, hx, -⟩ := h1.mem p hp
  have := (List.getElem?_eq_some_iff.1 hx).1
  simp only [List.getD_eq_getElem?_getD]
  rw [List.getElem?_append_left (by omega)]

theorem lookA_map (l : List (Str × Nat)) (g : Nat → Nat) (nm : Str) : lookA (l.map fun p => (p.1, g p.2)) nm = (lookA l nm).map g := by
  induction l with
  | nil => rfl
  | cons p l ih => simp only [List.map_cons, lookA]; split <;> simp_all
theorem lookA_app (l r : List (Str × Nat)) (nm : Str) : lookA (l ++ r) nm = match lookA l nm with | some x => some x | none => lookA r nm := by
  induction l with
  | nil => rfl
  | cons p l ih =>
    simp only [List.cons_append, lookA]
    by_cases h : p.1 = nm
    · simp [h]
    · simp [h, ih]
theorem lookA_posN (l : List (Str × Nat)) (nm : Str) : lookA l nm = (posN (l.map (·.1)) nm).bind fun p => (l[p]?).map (·.2) := by
  induction l with
  | nil => rfl
  | cons p l ih =>
    simp only [List.map_cons, lookA, posN]
    by_cases h : p.1 = nm
    · simp [h]
    · simp only [h, if_false, ih]
      cases posN (l.map (·.1)) nm <;> simp
theorem posN_get : ∀ {l : List Str} {nm : Str} {p : Nat}, posN l nm = some p → l[p]? = some nm
  | q :: l, nm, p, h => by
    simp only [posN] at h
    by_cases hq : q = nm
    · simp [hq] at h; subst h; simp [hq]
    · simp only [hq, if_false] at h
      cases h' : posN l nm with
      | none => rw [h'] at h; cases h
      | some k => rw [h'] at h; simp at h; subst h; simpa using posN_get h'

theorem findE_ch {es : List Env} {nm : Str} : ∀ {l : List (Str × Nat)} {e : Nat} {f : Nat}, Ch es e l → e < f → findE f es e nm = match lookA l nm with | some k => k + 1 | none => 0
  | _, _, 0, h, hf => by omega
  | [], _, f + 1, h, hf => by have h : _ = 0 := h; simp [findE, lookA, h]
  | q :: l, _, f + 1, ⟨e, x, h0, h1, h2, h4, h3⟩, hf => by
    subst h0; subst h4
    simp only [findE, Nat.add_one_ne_zero, if_false, Nat.add_sub_cancel, h1, lookA]
    by_cases h : x.name = nm
    · simp [h]
    · simp only [h, if_false]
      exact findE_ch h3 (by omega)

/-- what a name means in a scope. -/
theorem find_bd {s : IS} {ρ : List Nat} {e : Nat} {D : List (Str × Nat)} (h : Bd s.envs ρ e D) (nm : Str) :
    (s.find e nm = 0 ∧ lookA D nm = none) ∨ ∃ k x, s.find e nm = k + 1 ∧ s.envs[k]? = some x ∧ lookA D nm = some (ρ.getD k 0) := by
  obtain ⟨l, h1, h2⟩ := h
  unfold IS.find
  rw [findE_ch h1 (by have := h1.le; omega), ← h2, lookA_map l (fun k => ρ.getD k 0)]
  cases hk : lookA l nm with
  | none => exact .inl ⟨rfl, rfl⟩
  | some k =>
    refine .inr ⟨k, ?_⟩
    have hm : ∃ n, (n, k) ∈ l := by
      clear h1 h2
      induction l with
      | nil => cases hk
      | cons p l ih =>
        simp only [lookA] at hk
        split at hk
        · cases hk; exact ⟨p.1, by simp⟩
        · obtain ⟨n, hn⟩ := ih hk; exact ⟨n, by simp [hn]⟩
    obtain ⟨n, hn⟩ := hm
    obtain ⟨x, hx, -⟩ := h1.mem _ hn
    exact ⟨x, rfl, hx, rfl⟩

/-! soundness of an instruction, and runs of sound steps -/

def needO (op x : Nat) : Nat :=
  if op = 26 then x + 1 else if op = 6 ∨ op = 8 ∨ op = 10 ∨ op = 22 ∨ op = 25 ∨ op = 23 ∨ op = 24 ∨ op = 18 ∨ op = 19 ∨ op = 20 then 1
  else if op = 11 ∨ op = 15 ∨ op = 16 ∨ op = 17 ∨ op = 13 ∨ op = 27 then 2 else if op = 12 then 3 else 0
def growsO (op : Nat) : Bool := op = 1 || op = 2 || op = 3 || op = 4 || op = 5 || op = 7 || op = 9 || op = 14 || op = 28 || op = 31 || op = 32
def AS.pro (a : AS) : Nat := (a.clos.getD a.fr.clo (0, [])).1
def AS.ids (a : AS) : List Nat := (a.clos.getD a.fr.clo (0, [])).2
def rngO (Ps : List Proto) (a : AS) (op x : Nat) : Prop :=
  let p := pr Ps a.pro
  1 ≤ op ∧ op ≤ 32 ∧
  (op = 1 → x < p.ks.length) ∧ (op = 9 ∨ op = 10 → ∃ s, p.ks[x]? = some (vStr s)) ∧ (op = 5 ∨ op = 6 → x < p.ns) ∧ (op = 7 ∨ op = 8 → x < a.ids.length) ∧
  (op = 15 ∨ op = 16 → 1 ≤ x ∧ x ≤ 6) ∧ (op = 21 ∨ op = 22 ∨ op = 23 ∨ op = 24 → x < p.code.length) ∧ (op = 26 → x ≤ 3) ∧ (op = 29 → x ≤ p.ns) ∧ (op = 30 ∨ op = 31 ∨ op = 32 → x + 3 < p.ns) ∧
  (op = 31 → (a.var (a.slot x)).T = 2 ∧ (a.var (a.slot (x + 1))).T = 2 ∧ (a.var (a.slot (x + 2))).T = 2) ∧
  (op = 28 → x < Ps.length ∧ ∀ d ∈ (pr Ps x).ups, (d.1 = 1 ∧ d.2 < p.ns) ∨ (d.1 = 0 ∧ d.2 < a.ids.length))
structure Snd (Ps : List Proto) (a : AS) (op x : Nat) : Prop where
  d : a.done = false
  c : cod Ps a.pro a.fr.pc = some (op, x)
  r : rngO Ps a op x
  n : needO op x ≤ a.fr.ops.length
  g : a.fr.ops.length ≤ 128 ∧ (growsO op = true → a.fr.ops.length < 128) ∧ (op = 26 → a.fr.ops.length + 1 ≤ 128 + x)
/-- runs of sound steps: the least relation that is so closed. -/
def Go (Ps : List Proto) (a b : AS) : Prop := ∀ R : AS → AS → Prop, (∀ a, R a a) → (∀ a op x b, Snd Ps a op x → R (astep Ps a) b → R a b) → R a b
theorem Go.refl {Ps : List Proto} {a : AS} : Go Ps a a := fun R h _ => h a
theorem Go.step {Ps : List Proto} {a : AS} {op x : Nat} {b : AS} (h : Snd Ps a op x) (k : Go Ps (astep Ps a) b) : Go Ps a b := fun R h1 h2 => h2 a op x b h (k R h1 h2)
theorem Go.trans {Ps : List Proto} {a b c : AS} (h : Go Ps a b) (k : Go Ps b c) : Go Ps a c :=
  h (fun a b => Go Ps b c → Go Ps a c) (fun _ k => k) (fun _ _ _ _ h1 ih k => .step h1 (ih k)) k
theorem Go.one {Ps : List Proto} {a : AS} {op x : Nat} (h : Snd Ps a op x) : Go Ps a (astep Ps a) := .step h .refl

/-! the relation -/

section
variable (G : Arena) (root : Nat) (Ps : List Proto) (Fs : Nat → FI)

def UpD (j : Nat) (ids : List Nat) (od : List (Str × Nat)) : Prop :=
  od.map (·.1) = (Fs j).outer ∧ ids.length = (Fs j).upos.length ∧ ∀ (u p : Nat), (Fs j).upos[u]? = some p → ∃ v nm, ids[u]? = some v ∧ od[p]? = some (nm, v)
/-- a function's tree and code. -/
def FnD (n j : Nat) : Prop :=
  ∃ ps bd z, IsNm G (nd G n).A ps ∧ IsSL G (if n = 0 then root else (nd G n).B) bd ∧ (pr Ps j).np = ps.length ∧ ps.length ≤ (pr Ps j).ns ∧ (∀ s ∈ ps, s ≠ []) ∧ ps.length ≤ 3 ∧
    CB Ps Fs j ps ps [] bd 0 z ∧ cod Ps j z = some (2, 0) ∧ cod Ps j (z + 1) = some (2, 0) ∧ cod Ps j (z + 2) = some (27, 0)
/-- what the hidden slots of an open loop hold. -/
def FlD (vars : List PV) (tabs : List Tb) (sl : List Nat) (ops : List PV) (p : Nat × Nat) : Prop :=
  if p.2 = 1 then ∀ k, k < 3 → (vars.getD (sl.getD (p.1 + k) 0) vNil).T = 2 ∧ (vars.getD (sl.getD (p.1 + k) 0) vNil).S = []
  else if p.2 = 2 then ∃ v, ops.reverse[p.1]? = some v ∧ v.T = 4
  else (vars.getD (sl.getD p.1 0) vNil).T = 4 ∧ (vars.getD (sl.getD p.1 0) vNil).N < tabs.length ∧ ((vars.getD (sl.getD (p.1 + 1) 0) vNil).T = 0 ∨ ∃ i, place (tabs.getD (vars.getD (sl.getD p.1 0) vNil).N []) (nrmK (vars.getD (sl.getD (p.1 + 1) 0) vNil)) = some i)
/-- what of a frame does not hang on its place. -/
structure FrD (vars : List PV) (tabs : List Tb) (ρ sl : List Nat) (j : Nat) (L : List Str) (hid : List Nat) (fl : List (Nat × Nat)) (ops vs : List PV) : Prop where
  v : vs = ops ++ hid.map fun s => vars.getD (sl.getD s 0) vNil
  f : ∀ p ∈ fl, FlD vars tabs sl ops p ∧ p.2 ≤ 2
  n : sl.length = (pr Ps j).ns
  l : L.length ≤ (pr Ps j).ns
  r : ∀ s, s < sl.length → sl.getD s 0 ∈ ρ → ∃ nm, L[s]? = some nm ∧ nm ≠ []
def FR (es : List Env) (ρ : List Nat) (vars : List PV) (clos : List (Nat × List Nat)) (tabs : List Tb) (f : AFr) (seg : List Tk) (vs : List PV) (x hb : Nat) : Prop :=
  ∃ j ids od L hid lc fl, clos[f.clo]? = some (j, ids) ∧ UpD Fs j ids od ∧ K G Ps Fs (Bd es ρ) f.slots od hb j false f.pc seg (f.ops.length + x) L hid lc fl ∧ FrD Ps vars tabs ρ f.slots j L hid fl f.ops vs ∧ f.ops.length + x ≤ 128
def FrL (es : List Env) (ρ : List Nat) (vars : List PV) (clos : List (Nat × List Nat)) (tabs : List Tb) : List AFr → List Tk → List PV → Nat → Prop
  | [], T, V, _ => T = [] ∧ V = []
  | f :: fs, T, V, x => ∃ seg ts vs vals p, T = seg ++ ⟨3, p, vals.length, 0⟩ :: ts ∧ V = vs ++ vals ∧ FR G Ps Fs es ρ vars clos tabs f seg vs x vals.length ∧ FrL es ρ vars clos tabs fs ts vals 2 ∧ f.prot = decide (p = 1) ∧ p ≤ 1 ∧ (fs = [] → p = 0) ∧ (∀ t ∈ seg, t.k ≠ 3)
structure TR (es : List Env) (ρ : List Nat) (vars : List PV) (clos : List (Nat × List Nat)) (tabs : List Tb) (x : ITh) (y : ATh) : Prop where
  st : x.st = y.st
  fn : x.fn = y.fn
  dp : x.depth = y.frs.length
  fr : FrL G Ps Fs es ρ vars clos tabs y.frs x.tasks x.vals (if x.st = 4 then 0 else 2)
  ne : (x.st = 2 ∨ x.st = 3) → y.frs ≠ []
  em : (x.st = 1 ∨ x.st = 5) → y.frs = []
  fc : x.st = 1 → x.fn < clos.length
  rg : 1 ≤ x.st ∧ x.st ≤ 5

def slotsOf (ths : List ATh) : List Nat := ths.flatMap fun t => t.frs.flatMap (·.slots)

structure Sim0 (i : IS) (a : AS) (ρ : List Nat) : Prop where
  cur : i.cur = a.cur
  stack : i.stack = a.stack
  fuel : i.fuel = a.fuel
  first : i.first = a.first
  out : i.out = a.out
  tabs : i.tabs = a.tabs
  di : i.done = false
  da : a.done = false
  rlen : ρ.length = i.envs.length
  rnd : ρ.Nodup
  rval : ∀ (k : Nat) x, i.envs[k]? = some x → a.vars.getD (ρ.getD k 0) vNil = x.v ∧ ρ.getD k 0 < a.vars.length
  sn : (slotsOf a.ths).Nodup
  sl : ∀ s ∈ slotsOf a.ths, s < a.vars.length
  clen : i.clos.length = a.clos.length
  clos : ∀ (c : Nat) n e, i.clos[c]? = some (n, e) → ∃ j ids od, a.clos[c]? = some (j, ids) ∧ UpD Fs j ids od ∧ Bd i.envs ρ e od ∧ FnD G root Ps Fs n j
  tlen : i.ths.length = a.ths.length
  ths : ∀ (t : Nat) x y, i.ths[t]? = some x → a.ths[t]? = some y → TR G Ps Fs i.envs ρ a.vars a.clos a.tabs x y
  curlt : i.cur < i.ths.length
  stk : ∀ c ∈ i.stack, c < i.ths.length ∧ (i.ths.getD c ITh.zero).st = 3
  stn : i.stack.Nodup
  bot : (i.cur :: i.stack).getLast? = some 0
structure Sim (i : IS) (a : AS) (ρ : List Nat) : Prop extends Sim0 G root Ps Fs i a ρ where
  curst : (i.ths.getD i.cur ITh.zero).st = 4
  curne : (a.ths.getD a.cur ATh.zero).frs ≠ []
end
section
variable {G : Arena} {Ps : List Proto} {Fs : Nat → FI} {es : List Env} {ρ : List Nat} {vars : List PV} {clos : List (Nat × List Nat)} {tabs : List Tb}
theorem FrL.nil {x : Nat} : FrL G Ps Fs es ρ vars clos tabs [] [] [] x := ⟨rfl, rfl⟩
theorem FrL.cons {f : AFr} {fs : List AFr} {seg ts : List Tk} {vs vals : List PV} {x p : Nat} (h1 : FR G Ps Fs es ρ vars clos tabs f seg vs x vals.length) (h2 : FrL G Ps Fs es ρ vars clos tabs fs ts vals 2) (h3 : f.prot = decide (p = 1)) (h4 : p ≤ 1) (h5 : fs = [] → p = 0) (h6 : ∀ t ∈ seg, t.k ≠ 3) :
    FrL G Ps Fs es ρ vars clos tabs (f :: fs) (seg ++ ⟨3, p, vals.length, 0⟩ :: ts) (vs ++ vals) x := ⟨_, _, _, _, _, rfl, rfl, h1, h2, h3, h4, h5, h6⟩
end

end Go.Proofs.Qxb6500568aGreatDoor
