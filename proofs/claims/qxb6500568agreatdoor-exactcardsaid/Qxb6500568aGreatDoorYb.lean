import Derived.Test.Qxb6500568aGreatDoorYa
namespace Go.Proofs.Qxb6500568aGreatDoor
open Ieee
set_option linter.unusedVariables false
set_option linter.unusedSimpArgs false
set_option linter.unusedSectionVars false

/-! The interpreter's whole state is well shaped; the moves of the thread at hand. -/

/-- closures. -/
def CLI (G : Arena) (root E : Nat) (c : Nat × Nat) : Prop :=
  c.2 ≤ E ∧ c.1 < G.length ∧ (∃ ps, IsNm G (nd G c.1).A ps ∧ ps.length ≤ 3) ∧ ∃ l m, IsSL G (if c.1 = 0 then root else (nd G c.1).B) l ∧ W l false m ∧ 6 * ndT l + 1 ≤ 2000
structure ThI (G : Arena) (E nc : Nat) (x : ITh) : Prop where
  s4 : x.st = 4 → TkI G E x.tasks x.vals.length
  s23 : x.st = 2 ∨ x.st = 3 → TkI G E x.tasks (x.vals.length + 2)
  s1 : x.st = 1 → x.tasks = [] ∧ x.vals = [] ∧ x.fn < nc
  s5 : x.st = 5 → x.tasks = [] ∧ x.vals = []
  rg : 1 ≤ x.st ∧ x.st ≤ 5
  dp : x.depth = nR x.tasks
  d8 : x.depth ≤ 8
def isF (x : ITh) : Bool := x.st == 1
structure BW (G : Arena) (root : Nat) (s : IS) : Prop where
  cl : s.cur < s.ths.length
  ot : ∀ (k : Nat) (x : ITh), k ≠ s.cur → s.ths[k]? = some x → ThI G s.envs.length s.clos.length x
  sk : ∀ c ∈ s.stack, c ≠ s.cur ∧ ∃ x, s.ths[c]? = some x ∧ x.st = 3
  nd : s.stack.Nodup
  bt : (s.cur :: s.stack).getLast? = some 0
  ev : ∀ (k : Nat) (x : Env), s.envs[k]? = some x → x.up ≤ k
  cs : ∀ c ∈ s.clos, CLI G root s.envs.length c
  out : s.out.length ≤ 200
  c1 : s.th.st ≠ 1
  fi : s.first + s.ths.countP isF < s.ths.length
  fu : s.fuel < 9223372036854775808
  dn : s.done = false
structure PW (G : Arena) (root : Nat) (s : IS) (T : List Tk) (h : Nat) : Prop where
  b : BW G root s
  t : s.th.tasks = T
  v : s.th.vals.length = h
  d : s.th.depth = nR T
  d8 : nR T ≤ 8
  st : s.th.st = 4
def IW (G : Arena) (root : Nat) (s : IS) : Prop := ∃ T h, PW G root s T h ∧ TkI G s.envs.length T h
def IWd (G : Arena) (root : Nat) (s : IS) : Prop := s.done = true ∨ IW G root s

section
variable {G : Arena} {root E h n x e k : Nat} {r T : List Tk} {t : Tk} {s : IS} {v : PV}

theorem CLI.mono {E' : Nat} {c : Nat × Nat} (hc : CLI G root E c) (hE : E ≤ E') : CLI G root E' c := ⟨Nat.le_trans hc.1 hE, hc.2⟩
theorem ThI.mono {E' nc nc' : Nat} {x : ITh} (h : ThI G E nc x) (hE : E ≤ E') (hc : nc ≤ nc') : ThI G E' nc' x :=
  ⟨fun q => (h.s4 q).mono hE, fun q => (h.s23 q).mono hE, fun q => ⟨(h.s1 q).1, (h.s1 q).2.1, Nat.lt_of_lt_of_le (h.s1 q).2.2 hc⟩, h.s5, h.rg, h.dp, h.d8⟩
theorem ThI.small {E nc : Nat} {x : ITh} (h : ThI G E nc x) : x.tasks.length ≤ 16100 ∧ x.vals.length ≤ 16100 := by
  have hr := h.rg
  have hd : nR x.tasks ≤ 8 := by rw [← h.dp]; exact h.d8
  have hc : x.st = 4 ∨ (x.st = 2 ∨ x.st = 3) ∨ x.st = 1 ∨ x.st = 5 := by omega
  rcases hc with q | q | q | q
  · exact (h.s4 q).small hd
  · have := (h.s23 q).small hd; omega
  · have := h.s1 q; rw [this.1, this.2.1]; simp
  · have := h.s5 q; rw [this.1, this.2]; simp

theorem th_setT (hc : s.cur < s.ths.length) (y : ITh) : (s.setT y).th = y := by
  unfold IS.th IS.setT
  simp only
  rw [List.getD_eq_getElem?_getD, List.getElem?_set_self hc]; rfl
theorem th_at (hc : s.cur < s.ths.length) : s.ths[s.cur]? = some s.th := by unfold IS.th; rw [List.getD_eq_getElem?_getD, List.getElem?_eq_getElem hc]; rfl
theorem countP_set : ∀ {l : List ITh} {i : Nat} {a b : ITh}, l[i]? = some a → isF a = isF b → (l.set i b).countP isF = l.countP isF
  | [], i, a, b, h, q => by cases h
  | c :: l, 0, a, b, h, q => by simp at h; subst h; simp [List.countP_cons, q]
  | c :: l, i + 1, a, b, h, q => by simp at h; simp [List.countP_cons, countP_set h q]
theorem isF_no {x : ITh} (h : x.st ≠ 1) : isF x = false := by unfold isF; simp [h]

theorem BW.setT (B : BW G root s) {y : ITh} (hy : y.st ≠ 1) : BW G root (s.setT y) := by
  have hl : (s.setT y).ths.length = s.ths.length := by simp [IS.setT]
  have hg : ∀ (k : Nat), k ≠ s.cur → (s.setT y).ths[k]? = s.ths[k]? := fun k q => by unfold IS.setT; exact List.getElem?_set_ne (fun e => q e.symm)
  refine ⟨by rw [hl]; exact B.cl, fun k x q hx => B.ot k x q (by rw [← hg k q]; exact hx), fun c hc => ?_, B.nd, B.bt, B.ev, B.cs, B.out, by rw [th_setT B.cl]; exact hy, ?_, B.fu, B.dn⟩
  · obtain ⟨a, x, b, d⟩ := B.sk c hc
    exact ⟨a, x, by rw [hg c a]; exact b, d⟩
  · rw [hl]
    have : (s.setT y).ths.countP isF = s.ths.countP isF := countP_set (th_at B.cl) (by rw [isF_no B.c1, isF_no hy])
    rw [this]; exact B.fi
theorem PW.cl (P : PW G root s T h) : s.cur < s.ths.length := P.b.cl
theorem PW.setT (P : PW G root s T h) {y : ITh} {T' : List Tk} {h' : Nat} (h1 : y.tasks = T') (h2 : y.vals.length = h') (h3 : y.depth = nR T') (h4 : nR T' ≤ 8) (h5 : y.st = 4) : PW G root (s.setT y) T' h' :=
  ⟨P.b.setT (by omega), by rw [th_setT P.cl]; exact h1, by rw [th_setT P.cl]; exact h2, by rw [th_setT P.cl]; exact h3, h4, by rw [th_setT P.cl]; exact h5⟩
theorem PW.push (P : PW G root s T h) (v : PV) : PW G root (ipush v s) T (h + 1) := P.setT P.t (by simp [P.v]) P.d P.d8 P.st
theorem PW.drop (P : PW G root s T h) (k : Nat) : PW G root (idrop k s) T (h - k) := P.setT P.t (by simp [P.v]) P.d P.d8 P.st
theorem PW.doT (P : PW G root s T h) (hk : k ≠ 3) : PW G root (ido k n x e s) (⟨k, n, x, e⟩ :: T) h :=
  P.setT (by show _ :: s.th.tasks = _; rw [P.t]) P.v (by rw [nR_c hk]; exact P.d) (by rw [nR_c hk]; exact P.d8) P.st
theorem PW.pop (P : PW G root s (t :: r) h) (hk : t.k ≠ 3) : PW G root (s.setT { s.th with tasks := r }) r h :=
  P.setT rfl P.v (by rw [← nR_c (r := r) hk]; exact P.d) (by rw [← nR_c (r := r) hk]; exact P.d8) P.st
theorem PW.tasks (P : PW G root s T h) : s.th.tasks = T := P.t
theorem PW.new (P : PW G root s T h) (nm : Str) (v : PV) {up : Nat} (hu : up ≤ s.envs.length) : PW G root (inew nm v up s) T h := by
  have B := P.b
  have hl : (inew nm v up s).envs.length = s.envs.length + 1 := by simp [inew]
  refine ⟨⟨B.cl, fun k x q hx => (B.ot k x q hx).mono (by omega) (Nat.le_refl _), B.sk, B.nd, B.bt, fun k x hx => ?_, fun c hc => (B.cs c hc).mono (by omega), B.out, B.c1, B.fi, B.fu, B.dn⟩, P.t, P.v, P.d, P.d8, P.st⟩
  have hx' : (s.envs ++ [⟨nm, v, up⟩])[k]? = some x := hx
  rw [List.getElem?_append] at hx'
  split at hx'
  · exact B.ev k x hx'
  · rename_i hk
    have hk' : k - s.envs.length = 0 := by
      have := (List.getElem?_eq_some_iff.1 hx').1; simp at this; omega
    rw [hk'] at hx'
    simp at hx'
    subst hx'
    show up ≤ k; omega
theorem new_len (nm : Str) (v : PV) (up : Nat) : (inew nm v up s).envs.length = s.envs.length + 1 := by simp [inew]
theorem setE_len (x : Nat) (v : PV) : (setE x v s).envs.length = s.envs.length := by simp [setE]
theorem PW.setE (P : PW G root s T h) (x : Nat) (v : PV) : PW G root (setE x v s) T h := by
  have B := P.b
  have hl := setE_len (s := s) x v
  refine ⟨⟨B.cl, fun k y q hx => by rw [hl]; exact B.ot k y q hx, B.sk, B.nd, B.bt, fun k y hx => ?_, fun c hc => by rw [hl]; exact B.cs c hc, B.out, B.c1, B.fi, B.fu, B.dn⟩, P.t, P.v, P.d, P.d8, P.st⟩
  have hx' : (s.envs.modify (x - 1) fun z => { z with v := v })[k]? = some y := hx
  rw [List.getElem?_modify] at hx'
  cases hq : s.envs[k]? with
  | none => rw [hq] at hx'; cases hx'
  | some z =>
    rw [hq] at hx'
    have hx' := Option.some.inj hx'
    have := B.ev k z hq
    split at hx'
    · rw [← hx']; exact this
    · rw [← hx']; exact this
theorem PW.tabs (P : PW G root s T h) (ts : List Tb) : PW G root { s with tabs := ts } T h := ⟨⟨P.b.cl, P.b.ot, P.b.sk, P.b.nd, P.b.bt, P.b.ev, P.b.cs, P.b.out, P.b.c1, P.b.fi, P.b.fu, P.b.dn⟩, P.t, P.v, P.d, P.d8, P.st⟩
theorem PW.fuel (P : PW G root s T h) : PW G root { s with fuel := s.fuel - 1 } T h := ⟨⟨P.b.cl, P.b.ot, P.b.sk, P.b.nd, P.b.bt, P.b.ev, P.b.cs, P.b.out, P.b.c1, P.b.fi, by have := P.b.fu; show s.fuel - 1 < _; omega, P.b.dn⟩, P.t, P.v, P.d, P.d8, P.st⟩
theorem PW.outP (P : PW G root s T h) {o : Str} (ho : o.length ≤ 200) : PW G root { s with out := o } T h := ⟨⟨P.b.cl, P.b.ot, P.b.sk, P.b.nd, P.b.bt, P.b.ev, P.b.cs, ho, P.b.c1, P.b.fi, P.b.fu, P.b.dn⟩, P.t, P.v, P.d, P.d8, P.st⟩
theorem PW.newC (P : PW G root s T h) {c : Nat × Nat} (hc : CLI G root s.envs.length c) : PW G root { s with clos := s.clos ++ [c] } T h := by
  refine ⟨⟨P.b.cl, fun k x q hx => (P.b.ot k x q hx).mono (Nat.le_refl _) (by simp), P.b.sk, P.b.nd, P.b.bt, P.b.ev, fun z hz => ?_, P.b.out, P.b.c1, P.b.fi, P.b.fu, P.b.dn⟩, P.t, P.v, P.d, P.d8, P.st⟩
  rcases List.mem_append.1 hz with hz | hz
  · exact P.b.cs z hz
  · rw [List.mem_singleton] at hz; subst hz; exact hc
theorem PW.newT (P : PW G root s T h) {f : Nat} (hf : f < s.clos.length) : PW G root { s with ths := s.ths ++ [⟨1, f, 0, [], []⟩] } T h := by
  have hth : IS.th { s with ths := s.ths ++ [⟨1, f, 0, [], []⟩] } = s.th := by
    unfold IS.th
    simp only [List.getD_eq_getElem?_getD]
    rw [List.getElem?_append_left P.cl]
  refine ⟨⟨by show s.cur < (s.ths ++ _).length; have := P.cl; simp; omega, fun k x q hx => ?_, fun c hc => ?_, P.b.nd, P.b.bt, P.b.ev, P.b.cs, P.b.out, by rw [hth]; exact P.b.c1, ?_, P.b.fu, P.b.dn⟩, by rw [hth]; exact P.t, by rw [hth]; exact P.v, by rw [hth]; exact P.d, P.d8, by rw [hth]; exact P.st⟩
  · have hx' : (s.ths ++ [⟨1, f, 0, [], []⟩])[k]? = some x := hx
    rw [List.getElem?_append] at hx'
    split at hx'
    · exact P.b.ot k x q hx'
    · have hk' : k - s.ths.length = 0 := by have := (List.getElem?_eq_some_iff.1 hx').1; simp at this; omega
      rw [hk'] at hx'
      simp at hx'
      subst hx'
      exact ⟨(fun q => by cases q), (fun q => by rcases q with q | q <;> cases q), fun _ => ⟨rfl, rfl, hf⟩, (fun q => by cases q), ⟨Nat.le_refl 1, (show 1 ≤ 5 by decide)⟩, rfl, Nat.zero_le _⟩
  · obtain ⟨a, x, b, d⟩ := P.b.sk c hc
    exact ⟨a, x, by show (s.ths ++ _)[c]? = _; rw [List.getElem?_append_left (List.getElem?_eq_some_iff.1 b).1]; exact b, d⟩
  · show s.first + (s.ths ++ _).countP isF < (s.ths ++ _).length
    have := P.b.fi
    rw [List.countP_append]
    simp [List.countP_cons, isF]
    omega
theorem PW.iw (P : PW G root s T h) (hT : TkI G s.envs.length T h) : IWd G root s := .inr ⟨T, h, P, hT⟩
theorem IWd.ite {p : Prop} [Decidable p] {a b : IS} (ha : p → IWd G root a) (hb : ¬ p → IWd G root b) : IWd G root (if p then a else b) := by
  by_cases h : p
  · rw [if_pos h]; exact ha h
  · rw [if_neg h]; exact hb h
theorem IWd.fin (e : Nat) (tl : Str) : IWd G root (ifin e tl s) := .inl rfl

/-- a dead thread gives way to its resumer. -/
theorem BW.back (B : BW G root s) (hd : ThI G s.envs.length s.clos.length s.th) (ok : Bool) (v : PV) : IWd G root (iback ok v s) := by
  unfold iback
  cases hs : s.stack with
  | nil => exact .fin _ _
  | cons c q =>
    obtain ⟨a, x, b, d⟩ := B.sk c (by rw [hs]; simp)
    have hcl := (List.getElem?_eq_some_iff.1 b).1
    have hx := B.ot c x a b
    have hth : IS.th { s with stack := q, cur := c } = x := by unfold IS.th; simp only [List.getD_eq_getElem?_getD, b]; rfl
    have B1 : BW G root { s with stack := q, cur := c } := by
      refine ⟨hcl, fun k y hk hy => ?_, fun z hz => ?_, ?_, ?_, B.ev, B.cs, B.out, by rw [hth]; omega, B.fi, B.fu, B.dn⟩
      · by_cases e : k = s.cur
        · subst e
          have : s.ths[s.cur]? = some y := hy
          rw [th_at B.cl] at this
          have := Option.some.inj this
          subst this; exact hd
        · exact B.ot k y e hy
      · obtain ⟨a1, x1, b1, d1⟩ := B.sk z (by rw [hs]; simp [hz])
        refine ⟨fun e => ?_, x1, b1, d1⟩
        have e : z = c := e
        subst e
        have := B.nd; rw [hs] at this
        exact (List.nodup_cons.1 this).1 hz
      · have := B.nd; rw [hs] at this; exact (List.nodup_cons.1 this).2
      · have := B.bt; rw [hs] at this; rw [List.getLast?_cons_cons] at this; exact this
    have hti := hx.s23 (.inr d)
    have P1 : PW G root (IS.setT { s with stack := q, cur := c } { IS.th { s with stack := q, cur := c } with st := 4 }) x.tasks x.vals.length :=
      ⟨B1.setT (by simp), by rw [th_setT B1.cl, hth], by rw [th_setT B1.cl, hth], by rw [th_setT B1.cl, hth]; exact hx.dp, by rw [← hx.dp]; exact hx.d8, by rw [th_setT B1.cl]⟩
    exact ((P1.push _).push _).iw hti
theorem PW.dead (P : PW G root s T h) {y : ITh} (h1 : y.tasks = []) (h2 : y.vals = []) (h3 : y.depth = 0) (h5 : y.st = 5) (ok : Bool) (v : PV) : IWd G root (iback ok v (s.setT y)) := by
  refine (P.b.setT (by omega)).back ?_ ok v
  rw [th_setT P.cl]
  exact ⟨(fun q => by omega), (fun q => by omega), (fun q => by omega), fun _ => ⟨h1, h2⟩, by omega, by rw [h1, h3]; rfl, by omega⟩
theorem cut_len {l : List PV} {x : Nat} (hx : x ≤ l.length) : (cutTo x l).length = x := by unfold cutTo; rw [List.length_drop]; omega
theorem PW.throw (P : PW G root s T h) {h' : Nat} (hT : TkI G s.envs.length T h') (hf : flT T ≤ h) (v : PV) : IWd G root (ithrow v s) := by
  unfold ithrow
  rw [P.t]
  rcases thr_ti hT P.d with ⟨u, r', q1, q2, q3, q4, q5, q6⟩ | q1
  · rw [q1]
    simp only
    have hl : (cutTo u.x s.th.vals).length = u.x := cut_len (by rw [P.v]; omega)
    exact (P.setT (y := { s.th with tasks := r', depth := nR r', vals := v :: vBool false :: cutTo u.x s.th.vals }) (T' := r') (h' := u.x + 2) rfl (by simp [hl]) rfl (by have := P.d8; omega) P.st).iw q6
  · rw [q1]
    simp only
    exact P.dead rfl rfl rfl rfl _ _
theorem PW.ret (P : PW G root s T h) {h' : Nat} (hT : TkI G s.envs.length T h') (hf : flT T ≤ h) (a b : PV) : IWd G root (iret a b s) := by
  unfold iret
  rw [P.t]
  obtain ⟨u, r', q1, q2, q3, q4, q5, q6⟩ := ret_ti hT
  rw [q1]
  simp only
  have hl : (cutTo u.x s.th.vals).length = u.x := cut_len (by rw [P.v]; omega)
  have hd : s.th.depth - 1 = nR r' := by rw [P.d]; omega
  have h8 := P.d8
  rcases q6 with ⟨rfl, q7, q8⟩ | ⟨q7, q8⟩
  · rw [if_pos rfl]
    refine P.dead rfl ?_ hd rfl _ _
    rw [q8] at hl
    exact List.eq_nil_of_length_eq_zero (by rw [q8]; exact hl)
  · rw [if_neg q7]
    refine IWd.ite (fun _ => ?_) (fun _ => ?_)
    · exact (P.setT (y := { s.th with tasks := r', depth := s.th.depth - 1, vals := a :: vBool true :: cutTo u.x s.th.vals }) (T' := r') (h' := u.x + 2) rfl (by simp [hl]) hd (by omega) P.st).iw q8
    · exact (P.setT (y := { s.th with tasks := r', depth := s.th.depth - 1, vals := b :: a :: cutTo u.x s.th.vals }) (T' := r') (h' := u.x + 2) rfl (by simp [hl]) hd (by omega) P.st).iw q8

theorem PW.bnd : ∀ {f p : Nat} {zs : List PV} {e : Nat} {s : IS}, PW G root s T h → e ≤ s.envs.length → PW G root (bindP G f p zs e s).2 T h ∧ (bindP G f p zs e s).1 ≤ (bindP G f p zs e s).2.envs.length ∧ s.envs.length ≤ (bindP G f p zs e s).2.envs.length
  | 0, p, zs, e, s, P, he => ⟨P, he, Nat.le_refl _⟩
  | f + 1, p, zs, e, s, P, he => by
    unfold bindP
    by_cases hp : p = 0
    · rw [if_pos hp]; exact ⟨P, he, Nat.le_refl _⟩
    · rw [if_neg hp]
      have := PW.bnd (f := f) (p := (nd G p).Nx) (zs := zs.tail) (e := (inew (nd G p).S (zs.headD vNil) e s).last) (P.new (nd G p).S (zs.headD vNil) he) (Nat.le_refl _)
      refine ⟨this.1, this.2.1, Nat.le_trans ?_ this.2.2⟩
      rw [new_len]; omega
/-- a function is entered. -/
theorem PW.enter (hG : 0 < G.length) (P : PW G root s T h) (hT : T ≠ [] → TkI G s.envs.length T (h + 2)) {c p : Nat} (hc : c < s.clos.length) (hn : nR T < 8) (hp : p ≤ 1) (h0 : T = [] → p = 0 ∧ h = 0) (hf0 : flT T ≤ h) (zs : List PV) : IWd G root (ienter G root c zs p s) := by
  have hci : CLI G root s.envs.length (s.clos.getD c (0, 0)) := P.b.cs _ (by rw [List.getD_eq_getElem?_getD, List.getElem?_eq_getElem hc]; exact List.getElem_mem hc)
  unfold ienter
  simp only
  generalize s.clos.getD c (0, 0) = cl at hci
  obtain ⟨i1, i2, -, l, m, i4, i5, i6⟩ := hci
  have P1 : PW G root (s.setT { s.th with depth := s.th.depth + 1, tasks := ⟨3, p, s.th.vals.length, 0⟩ :: s.th.tasks }) (⟨3, p, h, 0⟩ :: T) h :=
    P.setT (by rw [P.v, P.t]) P.v (by show s.th.depth + 1 = nR T + 1; rw [P.d]) (show nR T + 1 ≤ 8 by omega) P.st
  obtain ⟨P2, b1, b2⟩ := PW.bnd (f := 4) (p := (nd G cl.1).A) (zs := zs) P1 (e := cl.2) i1
  have b2 : s.envs.length ≤ _ := b2
  generalize bindP G 4 (nd G cl.1).A zs cl.2 _ = q at *
  refine (P2.doT (by decide)).iw ?_
  show TkI G q.2.envs.length _ _
  have hl : len1 ((⟨3, p, h, 0⟩ : Tk) :: T) = 0 := rfl
  have hf : flT ((⟨3, p, h, 0⟩ : Tk) :: T) = h := rfl
  refine TkI.c1 hG b1 ⟨l, false, m, i4, i5, (fun q => by cases q), by rw [hl, hf]; omega⟩ ⟨Nat.zero_le _, ?_⟩
  by_cases hT0 : T = []
  · exact ⟨hp, Nat.le_refl _, (show h ≤ h + 2000 by omega), by subst hT0; exact Nat.zero_le _, .inl ⟨hT0, h0 hT0⟩⟩
  · have hT := hT hT0
    have := hT.fl
    exact ⟨hp, Nat.le_refl _, (show h ≤ h + 2000 by omega), hf0, .inr ⟨hT0, hT.mono b2⟩⟩
end

end Go.Proofs.Qxb6500568aGreatDoor
