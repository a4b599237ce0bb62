import Derived.Test.Qxb6500567aGreatOa
import Derived.Test.Qxb6500567aGreatFt
/- A world of towers and of lists that were handed out. -/
namespace Go.Proofs.Qxb6500567aGreat
set_option linter.unusedVariables false
set_option linter.unusedSimpArgs false

section
variable {P : Program} {n : Nat} {e : Nat → Option Value} {w : World}
theorem ro_capL {t et k : Nat} {x : Operand} {a : Option Addr} {m c : Nat} (hx : evO n e x = some (.slice a m c)) (ht : selB P t et k = true) : RO P n e w (.call ⟨.builtin .cap, #[x], #[t]⟩) (.int .i64 c) := by
  intro ds dst ty ps af g
  obtain ⟨t1, t2⟩ := selB_spec ht
  simp [execOp, resolve, evO_eval hx, invoke, builtin, Builtin.cap_, run_underlying t1, goInt]
end

theorem cel_getD (l : List Value) : cel l.length (fun j => l.getD j undef) = l := by
  apply List.ext_getElem?
  intro i
  by_cases hi : i < l.length
  · rw [cel_get hi, List.getD, List.getElem?_eq_getElem hi]; rfl
  · rw [List.getElem?_eq_none (by rw [cel_len]; omega), List.getElem?_eq_none (by omega)]
theorem cpf_all {f h : Nat → Value} {N : Nat} : cel N (cpf f 0 h 0 N) = cel N h := cel_congr (fun j hj => by rw [cpf_in (Nat.zero_le _) (by omega)]; congr 1; omega)

theorem rws_setG {α : Type} {enc : α → List Value} {k : Nat} (hk : ∀ x, (enc x).length = k) : ∀ {L : List α} {i j : Nat} {c c' : α} {v : Value}, L[i]? = some c → j < k → (enc c).set j v = enc c' → (rws enc L).set (i * k + j) v = rws enc (L.set i c')
  | x :: L, 0, j, c, c', v, h, hj, he => by
    simp only [List.getElem?_cons_zero, Option.some.injEq] at h
    subst h
    have e1 : rws enc (x :: L) = enc x ++ rws enc L := by simp [rws]
    have e2 : rws enc ((x :: L).set 0 c') = enc c' ++ rws enc L := by simp [rws]
    rw [e1, e2, Nat.zero_mul, Nat.zero_add, List.set_append_left _ _ (by rw [hk]; exact hj), he]
  | x :: L, i + 1, j, c, c', v, h, hj, he => by
    rw [List.getElem?_cons_succ] at h
    have e1 : rws enc (x :: L) = enc x ++ rws enc L := by simp [rws]
    have e2 : rws enc ((x :: L).set (i + 1) c') = enc x ++ rws enc (L.set i c') := by simp [rws]
    rw [e1, e2, ← rws_setG hk h hj he, List.set_append_right _ _ (by rw [hk, Nat.add_mul]; omega), hk]
    congr 2
    rw [Nat.add_mul]
    omega

theorem rws_cellsG {α : Type} {enc : α → List Value} (hc : ∀ x, ∀ u ∈ enc x, u.oneCell' = true) {L : List α} {u : Value} (h : u ∈ rws enc L) : u.oneCell' = true := by
  simp only [rws, List.mem_flatMap] at h
  obtain ⟨x, -, hx⟩ := h
  exact hc x u hx

/-- A row with one number written. -/
def upc (c : List Int) (j : Nat) (x : Int) : List Int := (List.range 8).map (fun i => if i = j then x else c.getD i 0)
theorem upc_set {c : List Int} {j : Nat} {x : Int} (hj : j < 8) : (capc c).set j (icv x) = capc (upc c j x) := by
  apply List.ext_getElem?
  intro i
  by_cases hi : i < 8
  · by_cases hij : j = i
    · subst hij
      rw [List.getElem?_set_self (by rw [cel_len]; exact hj), cel_get hj]
      simp [upc, hj]
    · rw [List.getElem?_set_ne hij, cel_get hi, cel_get hi]
      simp [upc, hi, Ne.symm hij]
  · rw [List.getElem?_eq_none (by rw [List.length_set, cel_len]; omega), List.getElem?_eq_none (by rw [cel_len]; omega)]

/-- A tower and its model. -/
structure TT where
  F : FK
  gb : Nat
  E : MB

def tws (t : TT) : Nat → Prop := fun k => (kset t.F k ∨ k = t.F.E.P.nn) ∨ (k = t.gb ∨ mset t.E k)

/-- A list that was handed out, its copy, what both hold. -/
structure LA (α : Type) where
  rb : Nat
  cb : Nat
  L : List α

abbrev alc {α : Type} (a : LA α) : List Value := [sl a.rb a.L.length, sl a.cb a.L.length]
theorem alc_len {α : Type} (a : LA α) : (alc a).length = 2 := rfl
theorem alc_cells {α : Type} (a : LA α) : ∀ u ∈ alc a, u.oneCell' = true := by
  intro u hu
  simp only [alc, List.mem_cons, List.not_mem_nil, or_false] at hu
  rcases hu with rfl | rfl <;> rfl
abbrev txc (t : List UInt8) : List Value := [S t]

/-- The types of the world's own blocks. -/
def shT (t : Nat) : Bool := [24, 22, 130, 133, 76].contains t
def othT (t : Nat) : Bool := [24, 22, 130, 133, 76, 175, 9].contains t
theorem shT_oth {t : Nat} (h : shT t = true) : othT t = true := by
  simp only [shT, othT, List.contains_eq_mem, List.mem_cons, List.not_mem_nil, or_false, decide_eq_true_eq] at h ⊢
  omega

theorem SMV.ty {H : Array Obj} {B : SB} (V : SMV H B) {b : Nat} (h : sset B b) : ∃ l t, Blk H b l t ∧ othT t = false := by
  obtain ⟨no, nw, nr, fo, fw, fr, fh, fz, fx, hB, hO, hK, hR, hH, hZ, hP⟩ := V
  rcases h with rfl | rfl | rfl | rfl | rfl | rfl | rfl
  · exact ⟨_, _, hB, rfl⟩
  · exact ⟨_, _, hO, rfl⟩
  · exact ⟨_, _, hK, rfl⟩
  · exact ⟨_, _, hR, rfl⟩
  · exact ⟨_, _, hH, rfl⟩
  · exact ⟨_, _, hZ, rfl⟩
  · exact ⟨_, _, hP, rfl⟩
theorem PKV.ty {w : World} {P : PK} (V : PKV w P) {b : Nat} (h : pset P b ∨ b = P.nn) : ∃ l t, Blk w.heap b l t ∧ othT t = false := by
  obtain ⟨f, h, h2, sf, reg, best, z, hB, hC, hO, hK, hR, hE, hN, hA, hr8, hb8⟩ := V
  rename_i hh
  rcases hh with (rfl | rfl | rfl | rfl | rfl | rfl) | rfl
  · exact ⟨_, _, hB, rfl⟩
  · exact ⟨_, _, hC, rfl⟩
  · exact ⟨_, _, hO, rfl⟩
  · exact ⟨_, _, hK, rfl⟩
  · exact ⟨_, _, hR, rfl⟩
  · exact ⟨_, _, hE, rfl⟩
  · exact ⟨_, _, hN, rfl⟩
theorem DVO.ty {w : World} {D : DF} {cn : Nat} (V : DVO w D cn) {b : Nat} (h : dset D b) : ∃ l t, Blk w.heap b l t ∧ othT t = false := by
  obtain ⟨kv, N, g, hB, hN, ⟨gs, hK⟩, -⟩ := V
  rcases h with rfl | rfl | rfl
  · exact ⟨_, _, hB, rfl⟩
  · exact ⟨_, _, hN, rfl⟩
  · exact ⟨_, _, hK, rfl⟩
theorem FRV.ty {w : World} {F : FK} {cn : Nat} (V : FRV w F cn) {b : Nat} (h : kset F b ∨ b = F.E.P.nn) : ∃ l t, Blk w.heap b l t ∧ othT t = false := by
  obtain ⟨L, P, sf, pf, hB, hX, hP, hsv, hpv, ⟨m0, m1, V⟩, hch, hpk, hpn⟩ := V
  rcases h with (rfl | rfl | rfl | rfl | h | h | h) | h
  · exact ⟨_, _, hB, rfl⟩
  · exact ⟨_, _, hX, rfl⟩
  · exact ⟨_, _, hP, rfl⟩
  · exact ⟨_, _, V.blk, rfl⟩
  · exact V.sm.ty h
  · exact V.pk.ty (.inl h)
  · exact V.df.ty h
  · exact V.pk.ty (.inr h)
theorem MEV.ty {H : Array Obj} {E : MB} {n : Nat} (V : MEV H E n) {b : Nat} (h : mset E b) : ∃ l t, Blk H b l t ∧ othT t = false := by
  obtain ⟨a, c, d, e, h', h1, h2, h3, h4, h5, h6, h7, h8⟩ := V
  rcases h with rfl | rfl | rfl | rfl
  · exact ⟨_, _, h5, rfl⟩
  · exact ⟨_, _, h6, rfl⟩
  · exact ⟨_, _, h7, rfl⟩
  · exact ⟨_, _, h8, rfl⟩
/-- The state of a tower and its model. -/
abbrev PT (w : World) (t : TT) (N : Nat) : Prop := Pr w t.F (300000 * N) t.gb t.E (600 * N)
theorem Pr.tyT {w : World} {t : TT} {N : Nat} (V : PT w t N) {b : Nat} (h : tws t b) : ∃ l ty, Blk w.heap b l ty ∧ othT ty = false := by
  rcases h with h | rfl | h
  · exact V.x.ty h
  · exact ⟨_, _, V.m.blk, rfl⟩
  · exact V.m.eng.ty h
theorem Pr.noT {w : World} {t : TT} {N : Nat} (V : PT w t N) {b ty : Nat} {l : List Value} (hb : Blk w.heap b l ty) (ht : othT ty = true) : ¬ tws t b := by
  intro h
  obtain ⟨l', t', hB, ho⟩ := V.tyT h
  rw [(hb.uniq hB).2, ho] at ht
  cases ht
theorem Pr.ltT {w : World} {t : TT} {N : Nat} (V : PT w t N) {b : Nat} (h : tws t b) : b < w.heap.size := by
  obtain ⟨l', t', hB, ho⟩ := V.tyT h
  exact hB.lt
theorem Pr.framT {w w' : World} {t : TT} {N d : Nat} {G : Nat → Prop} (V : PT w t N) (f : Fram G { w with drawn := d } w') (h1 : ∀ b, tws t b → ¬ G b) (h2 : ∀ b l, Blk w.heap b l 175 → ¬ G b) : PT w' t N :=
  ⟨V.x.fram f (fun b hb => h1 b (.inl hb)) h2, FMV.fram (w := { w with drawn := d }) ⟨V.m.blk, V.m.eng, V.m.ord, V.m.ef⟩ f (h1 _ (.inr (.inl rfl))) (fun k hk => h1 k (.inr (.inr hk))), V.ho, V.dj⟩
theorem FRV.up {w : World} {F : FK} {cn cm : Nat} (V : FRV w F cn) (h : cn ≤ cm) : FRV w F cm := by
  obtain ⟨L, P, sf, pf, hB, hX, hP, hsv, hpv, V, hch, hpk, hpn⟩ := V
  exact ⟨L, P, sf, pf, hB, hX, hP, hsv, hpv, V.up h, hch, hpk, hpn⟩
theorem Pr.up {w : World} {F : FK} {cn gb n cm m : Nat} {E : MB} (V : Pr w F cn gb E n) (h1 : cn ≤ cm) (h2 : n ≤ m) : Pr w F cm gb E m :=
  ⟨V.x.up h1, ⟨V.m.blk, V.m.eng.up h2, V.m.ord, V.m.ef⟩, V.ho, V.dj⟩
theorem bset2_t {t : TT} {b : Nat} (h : bset2 t.F t.E b) : tws t b := h.elim (fun h => .inl (.inl h)) (fun h => .inr (.inr h))

theorem snoc_get {α : Type} {L : List α} {x y : α} {i : Nat} (h : (L ++ [x])[i]? = some y) : L[i]? = some y ∨ (i = L.length ∧ y = x) := by
  by_cases hi : i < L.length
  · rw [List.getElem?_append_left hi] at h; exact .inl h
  · have := (List.getElem?_eq_some_iff.1 h).1
    simp at this
    have e : i = L.length := by omega
    subst e
    simp at h
    exact .inr ⟨rfl, h.symm⟩
theorem getE_lt {α : Type} {L : List α} {y : α} {i : Nat} (h : L[i]? = some y) : i < L.length := (List.getElem?_eq_some_iff.1 h).1

/-- The lists: their blocks, apart from one another. -/
structure LvW {α : Type} (enc : α → List Value) (et mx : Nat) (w : World) (z : Nat) (As : List (LA α)) : Prop where
  al : ∀ (i : Nat) (a : LA α), As[i]? = some a → Blk w.heap a.rb (rws enc a.L) et ∧ Blk w.heap a.cb (rws enc a.L) et ∧ a.L.length ≤ mx ∧ a.rb ≠ a.cb ∧ z ≤ a.rb ∧ z ≤ a.cb
  da : ∀ (i j : Nat) (a a' : LA α), As[i]? = some a → As[j]? = some a' → i ≠ j → a.rb ≠ a'.rb ∧ a.rb ≠ a'.cb ∧ a.cb ≠ a'.rb ∧ a.cb ≠ a'.cb

section
variable {α : Type} {enc : α → List Value} {et mx z d : Nat} {w w' : World} {As : List (LA α)} {G : Nat → Prop}
theorem LvW.nil (enc : α → List Value) (et mx : Nat) (w : World) (z : Nat) : LvW enc et mx w z [] := ⟨fun i a h => by simp at h, fun i j a a' h => by simp at h⟩
theorem LvW.framS (h : LvW enc et mx w z As) (f : Fram G { w with drawn := d } w') (hn : ∀ (i : Nat) (a : LA α), As[i]? = some a → ¬ G a.rb ∧ ¬ G a.cb) : LvW enc et mx w' z As :=
  ⟨fun i a ha => by
    obtain ⟨h1, h2, h3⟩ := h.al i a ha
    obtain ⟨n1, n2⟩ := hn i a ha
    exact ⟨Blk.fram (w := { w with drawn := d }) h1 f n1, Blk.fram (w := { w with drawn := d }) h2 f n2, h3⟩, h.da⟩
theorem LvW.put {i : Nat} {a : LA α} {L : List α} (h : LvW enc et mx w z As) (hi : As[i]? = some a) (f : Fram (fun k => k = a.rb ∨ k = a.cb) { w with drawn := d } w') (h1 : Blk w'.heap a.rb (rws enc L) et) (h2 : Blk w'.heap a.cb (rws enc L) et) (hl : L.length = a.L.length) : LvW enc et mx w' z (As.set i ⟨a.rb, a.cb, L⟩) := by
  have hil := getE_lt hi
  have hcase : ∀ (j : Nat) (b : LA α), (As.set i ⟨a.rb, a.cb, L⟩)[j]? = some b → (j = i ∧ b = ⟨a.rb, a.cb, L⟩) ∨ (j ≠ i ∧ As[j]? = some b) := by
    intro j b hb
    by_cases hj : j = i
    · subst hj
      rw [List.getElem?_set_self hil] at hb
      exact .inl ⟨rfl, (Option.some.inj hb).symm⟩
    · rw [List.getElem?_set_ne (Ne.symm hj)] at hb
      exact .inr ⟨hj, hb⟩
  refine ⟨fun j b hb => ?_, fun j k b b' hb hb' hjk => ?_⟩
  · obtain ⟨q1, q2, q3, q4, q5⟩ := h.al i a hi
    rcases hcase j b hb with ⟨rfl, rfl⟩ | ⟨hj, hb⟩
    · exact ⟨h1, h2, by show L.length ≤ mx; omega, q4, q5⟩
    · obtain ⟨p1, p2, p3⟩ := h.al j b hb
      obtain ⟨d1, d2, d3, d4⟩ := h.da j i b a hb hi hj
      exact ⟨Blk.fram (w := { w with drawn := d }) p1 f (by rintro (h | h) <;> contradiction), Blk.fram (w := { w with drawn := d }) p2 f (by rintro (h | h) <;> contradiction), p3⟩
  · rcases hcase j b hb with ⟨rfl, rfl⟩ | ⟨hj, hb1⟩ <;> rcases hcase k b' hb' with ⟨rfl, rfl⟩ | ⟨hk, hb2⟩
    · exact absurd rfl hjk
    · exact h.da j k a b' hi hb2 hjk
    · exact h.da j k b a hb1 hi hjk
    · exact h.da j k b b' hb1 hb2 hjk
theorem LvW.more {a : LA α} (h : LvW enc et mx w z As) (h1 : Blk w.heap a.rb (rws enc a.L) et) (h2 : Blk w.heap a.cb (rws enc a.L) et) (hl : a.L.length ≤ mx) (hrc : a.rb ≠ a.cb) (hz1 : z ≤ a.rb) (hz2 : z ≤ a.cb)
    (hd : ∀ (i : Nat) (b : LA α), As[i]? = some b → a.rb ≠ b.rb ∧ a.rb ≠ b.cb ∧ a.cb ≠ b.rb ∧ a.cb ≠ b.cb) : LvW enc et mx w z (As ++ [a]) := by
  refine ⟨fun j b hb => ?_, fun j k b b' hb hb' hjk => ?_⟩
  · rcases snoc_get hb with hb | ⟨-, rfl⟩
    · exact h.al j b hb
    · exact ⟨h1, h2, hl, hrc, hz1, hz2⟩
  · rcases snoc_get hb with hb1 | ⟨e1, rfl⟩ <;> rcases snoc_get hb' with hb2 | ⟨e2, rfl⟩
    · exact h.da j k b b' hb1 hb2 hjk
    · obtain ⟨d1, d2, d3, d4⟩ := hd j b hb1
      exact ⟨Ne.symm d1, Ne.symm d3, Ne.symm d2, Ne.symm d4⟩
    · exact hd k b' hb2
    · exact absurd (e1.trans e2.symm) hjk
end

/-- All but the world's own block. -/
structure WS (w : World) (z : Nat) (VX VM VA VC : Value) (ts : List TT) (As : List (LA (List Int))) (Cs : List (LA (List UInt8))) (N : Nat) : Prop where
  ox : Own w.heap VX 24 1 ts.length (ts.map (fun t => ptr t.F.fb))
  om : Own w.heap VM 22 1 ts.length (ts.map (fun t => ptr t.gb))
  oa : Own w.heap VA 130 2 As.length (rws alc As)
  oc : Own w.heap VC 133 2 Cs.length (rws alc Cs)
  tw : ∀ (i : Nat) (t : TT), ts[i]? = some t → PT w t N
  la : LvW capc 55 257 w z As
  lc : LvW txc 9 258 w z Cs
  dt : ∀ (i j : Nat) (t u : TT) (b : Nat), ts[i]? = some t → ts[j]? = some u → i ≠ j → tws t b → ¬ tws u b
  dl : ∀ (i : Nat) (t : TT) (j : Nat) (a : LA (List Int)), ts[i]? = some t → As[j]? = some a → ¬ tws t a.rb ∧ ¬ tws t a.cb
  zx : ∀ b, own1 VX b → z ≤ b
  zm : ∀ b, own1 VM b → z ≤ b
  za : ∀ b, own1 VA b → z ≤ b
  zc : ∀ b, own1 VC b → z ≤ b
  zt : ∀ (i : Nat) (t : TT) (b : Nat), ts[i]? = some t → tws t b → z ≤ b
  lt : ts.length ≤ N
  ln : As.length ≤ N
  lm : Cs.length ≤ N

theorem own_ty {H : Array Obj} {v : Value} {e k n : Nat} {xs : List Value} (h : Own H v e k n xs) {b : Nat} (hb : own1 v b) : ∃ l, Blk H b l e := by
  rcases h.2 with ⟨h1, -⟩ | ⟨g, cap, l, h1, h2, -⟩
  · unfold own1 at hb; rw [h1] at hb; cases hb
  · unfold own1 at hb; rw [h1] at hb; cases hb; exact ⟨l, h2⟩

section
variable {w w' : World} {z d : Nat} {VX VM VA VC : Value} {ts : List TT} {As : List (LA (List Int))} {Cs : List (LA (List UInt8))} {N : Nat} {G : Nat → Prop}

theorem WS.framN (h : WS w z VX VM VA VC ts As Cs N) (f : Fram none' { w with drawn := d } w') : WS w' z VX VM VA VC ts As Cs N :=
  ⟨Own.fram (w := { w with drawn := d }) h.ox f (fun _ _ h => h), Own.fram (w := { w with drawn := d }) h.om f (fun _ _ h => h), Own.fram (w := { w with drawn := d }) h.oa f (fun _ _ h => h), Own.fram (w := { w with drawn := d }) h.oc f (fun _ _ h => h),
    fun i t ht => (h.tw i t ht).framT f (fun _ _ h => h) (fun _ _ _ h => h), h.la.framS f (fun _ _ _ => ⟨fun h => h, fun h => h⟩), h.lc.framS f (fun _ _ _ => ⟨fun h => h, fun h => h⟩), h.dt, h.dl, h.zx, h.zm, h.za, h.zc, h.zt, h.lt, h.ln, h.lm⟩

theorem WS.up {M : Nat} (h : WS w z VX VM VA VC ts As Cs N) (hm : N ≤ M) : WS w z VX VM VA VC ts As Cs M :=
  ⟨h.ox, h.om, h.oa, h.oc, fun i t ht => (h.tw i t ht).up (Nat.mul_le_mul_left _ hm) (Nat.mul_le_mul_left _ hm), h.la, h.lc, h.dt, h.dl, h.zx, h.zm, h.za, h.zc, h.zt, Nat.le_trans h.lt hm, Nat.le_trans h.ln hm, Nat.le_trans h.lm hm⟩

/-- Only the world's own block was written. -/
theorem WS.own (h : WS w z VX VM VA VC ts As Cs N) {wb : Nat} {l : List Value} (hb : Blk w.heap wb l 76) (f : Fram (one wb) { w with drawn := d } w') : WS w' z VX VM VA VC ts As Cs N := by
  have ne : ∀ b l' t, Blk w.heap b l' t → t ≠ 76 → ¬ one wb b := fun b l' t h1 h2 h3 => by
    have e : b = wb := h3
    subst e
    exact h2 (h1.uniq hb).2
  have no : ∀ {v : Value} {e k n : Nat} {xs : List Value}, Own w.heap v e k n xs → e ≠ 76 → ∀ b, v.ownBlock = some b → ¬ one wb b := fun ho he b hb' => by
    obtain ⟨l, hl⟩ := own_ty ho hb'
    exact ne b l _ hl he
  refine ⟨Own.fram (w := { w with drawn := d }) h.ox f (no h.ox (by decide)), Own.fram (w := { w with drawn := d }) h.om f (no h.om (by decide)), Own.fram (w := { w with drawn := d }) h.oa f (no h.oa (by decide)), Own.fram (w := { w with drawn := d }) h.oc f (no h.oc (by decide)), ?_, ?_, ?_, h.dt, h.dl, h.zx, h.zm, h.za, h.zc, h.zt, h.lt, h.ln, h.lm⟩
  · exact fun i t ht => (h.tw i t ht).framT f (fun b hb' h3 => by
      have e : b = wb := h3
      subst e
      exact (h.tw i t ht).noT hb rfl hb') (fun b l' h1 => ne b l' _ h1 (by decide))
  · exact h.la.framS f (fun i a ha => by
      obtain ⟨p1, p2, -⟩ := h.la.al i a ha
      exact ⟨ne _ _ _ p1 (by decide), ne _ _ _ p2 (by decide)⟩)
  · exact h.lc.framS f (fun i a ha => by
      obtain ⟨p1, p2, -⟩ := h.lc.al i a ha
      exact ⟨ne _ _ _ p1 (by decide), ne _ _ _ p2 (by decide)⟩)

/-- One tower has moved. -/
theorem WS.at (h : WS w z VX VM VA VC ts As Cs N) {i : Nat} {t : TT} (ht : ts[i]? = some t) (f : Fram (bset2 t.F t.E) { w with drawn := d } w') (P : PT w' t (N + 1)) : WS w' z VX VM VA VC ts As Cs (N + 1) := by
  have hT := h.tw i t ht
  have ne : ∀ b l ty, Blk w.heap b l ty → othT ty = true → ¬ bset2 t.F t.E b := fun b l ty hb ho h3 => hT.noT hb ho (bset2_t h3)
  have no : ∀ {v : Value} {e k n : Nat} {xs : List Value}, Own w.heap v e k n xs → othT e = true → ∀ b, v.ownBlock = some b → ¬ bset2 t.F t.E b := fun ho he b hb' => by
    obtain ⟨l, hl⟩ := own_ty ho hb'
    exact ne b l _ hl he
  refine ⟨Own.fram (w := { w with drawn := d }) h.ox f (no h.ox rfl), Own.fram (w := { w with drawn := d }) h.om f (no h.om rfl), Own.fram (w := { w with drawn := d }) h.oa f (no h.oa rfl), Own.fram (w := { w with drawn := d }) h.oc f (no h.oc rfl), ?_, ?_, ?_, h.dt, h.dl, h.zx, h.zm, h.za, h.zc, h.zt, by have := h.lt; omega, by have := h.ln; omega, by have := h.lm; omega⟩
  · intro j u hu
    by_cases hji : j = i
    · subst hji
      rw [ht] at hu
      cases hu
      exact P
    · have := (h.tw j u hu).framT f (fun b hb h3 => h.dt j i u t b hu ht hji hb (bset2_t h3)) (fun b l hb => ne b l _ hb rfl)
      exact this.up (Nat.mul_le_mul_left _ (Nat.le_succ _)) (Nat.mul_le_mul_left _ (Nat.le_succ _))
  · exact h.la.framS f (fun j a ha => by
      obtain ⟨p1, p2⟩ := h.dl i t j a ht ha
      exact ⟨fun h3 => p1 (bset2_t h3), fun h3 => p2 (bset2_t h3)⟩)
  · exact h.lc.framS f (fun j a ha => by
      obtain ⟨p1, p2, -⟩ := h.lc.al j a ha
      exact ⟨ne _ _ _ p1 rfl, ne _ _ _ p2 rfl⟩)

/-- A list of matches was written, and its copy. -/
theorem WS.putA (h : WS w z VX VM VA VC ts As Cs N) {i : Nat} {a : LA (List Int)} {L : List (List Int)} (hi : As[i]? = some a) (f : Fram (fun k => k = a.rb ∨ k = a.cb) { w with drawn := d } w') (h1 : Blk w'.heap a.rb (rws capc L) 55) (h2 : Blk w'.heap a.cb (rws capc L) 55) (hl : L.length = a.L.length) : WS w' z VX VM VA VC ts (As.set i ⟨a.rb, a.cb, L⟩) Cs N := by
  obtain ⟨q1, q2, -⟩ := h.la.al i a hi
  have ne : ∀ b l ty, Blk w.heap b l ty → ty ≠ 55 → ¬ (b = a.rb ∨ b = a.cb) := fun b l ty hb ho h3 => by
    rcases h3 with rfl | rfl
    · exact ho (hb.uniq q1).2
    · exact ho (hb.uniq q2).2
  have no : ∀ {v : Value} {e k n : Nat} {xs : List Value}, Own w.heap v e k n xs → e ≠ 55 → ∀ b, v.ownBlock = some b → ¬ (b = a.rb ∨ b = a.cb) := fun ho he b hb' => by
    obtain ⟨l, hl⟩ := own_ty ho hb'
    exact ne b l _ hl he
  have hset : rws alc (As.set i ⟨a.rb, a.cb, L⟩) = rws alc As := by
    have : ∀ (As : List (LA (List Int))) (i : Nat), As[i]? = some a → rws alc (As.set i ⟨a.rb, a.cb, L⟩) = rws alc As := by
      intro As
      induction As with
      | nil => intro i h; simp at h
      | cons b As ih =>
        intro i h
        cases i with
        | zero =>
          simp at h
          subst h
          simp [rws, alc, hl]
        | succ i =>
          simp at h
          have := ih i h
          simp only [rws] at this
          simp only [rws, List.set_cons_succ, List.flatMap_cons, this]
    exact this As i hi
  refine ⟨Own.fram (w := { w with drawn := d }) h.ox f (no h.ox (by decide)), Own.fram (w := { w with drawn := d }) h.om f (no h.om (by decide)), ?_, Own.fram (w := { w with drawn := d }) h.oc f (no h.oc (by decide)), ?_, h.la.put hi f h1 h2 hl, ?_, h.dt, ?_, h.zx, h.zm, h.za, h.zc, h.zt, h.lt, by rw [List.length_set]; exact h.ln, h.lm⟩
  · rw [List.length_set, hset]
    exact Own.fram (w := { w with drawn := d }) h.oa f (no h.oa (by decide))
  · exact fun j t ht => (h.tw j t ht).framT f (fun b hb h3 => by
      obtain ⟨p1, p2⟩ := h.dl j t i a ht hi
      rcases h3 with rfl | rfl
      · exact p1 hb
      · exact p2 hb) (fun b l' h1 => ne b l' _ h1 (by decide))
  · exact h.lc.framS f (fun j c hc => by
      obtain ⟨p1, p2, -⟩ := h.lc.al j c hc
      exact ⟨ne _ _ _ p1 (by decide), ne _ _ _ p2 (by decide)⟩)
  · intro j t k b ht hb
    by_cases hk : k = i
    · subst hk
      rw [List.getElem?_set_self (getE_lt hi)] at hb
      cases hb
      exact h.dl j t k a ht hi
    · rw [List.getElem?_set_ne (Ne.symm hk)] at hb
      exact h.dl j t k b ht hb

/-- A list of pieces was written, and its copy. -/
theorem WS.putC (h : WS w z VX VM VA VC ts As Cs N) {i : Nat} {a : LA (List UInt8)} {L : List (List UInt8)} (hi : Cs[i]? = some a) (f : Fram (fun k => k = a.rb ∨ k = a.cb) { w with drawn := d } w') (h1 : Blk w'.heap a.rb (rws txc L) 9) (h2 : Blk w'.heap a.cb (rws txc L) 9) (hl : L.length = a.L.length) : WS w' z VX VM VA VC ts As (Cs.set i ⟨a.rb, a.cb, L⟩) N := by
  obtain ⟨q1, q2, -⟩ := h.lc.al i a hi
  have ne : ∀ b l ty, Blk w.heap b l ty → ty ≠ 9 → ¬ (b = a.rb ∨ b = a.cb) := fun b l ty hb ho h3 => by
    rcases h3 with rfl | rfl
    · exact ho (hb.uniq q1).2
    · exact ho (hb.uniq q2).2
  have no : ∀ {v : Value} {e k n : Nat} {xs : List Value}, Own w.heap v e k n xs → e ≠ 9 → ∀ b, v.ownBlock = some b → ¬ (b = a.rb ∨ b = a.cb) := fun ho he b hb' => by
    obtain ⟨l, hl⟩ := own_ty ho hb'
    exact ne b l _ hl he
  have hset : rws alc (Cs.set i ⟨a.rb, a.cb, L⟩) = rws alc Cs := by
    have : ∀ (As : List (LA (List UInt8))) (i : Nat), As[i]? = some a → rws alc (As.set i ⟨a.rb, a.cb, L⟩) = rws alc As := by
      intro As
      induction As with
      | nil => intro i h; simp at h
      | cons b As ih =>
        intro i h
        cases i with
        | zero =>
          simp at h
          subst h
          simp [rws, alc, hl]
        | succ i =>
          simp at h
          have := ih i h
          simp only [rws] at this
          simp only [rws, List.set_cons_succ, List.flatMap_cons, this]
    exact this Cs i hi
  refine ⟨Own.fram (w := { w with drawn := d }) h.ox f (no h.ox (by decide)), Own.fram (w := { w with drawn := d }) h.om f (no h.om (by decide)), Own.fram (w := { w with drawn := d }) h.oa f (no h.oa (by decide)), ?_, ?_, ?_, h.lc.put hi f h1 h2 hl, h.dt, h.dl, h.zx, h.zm, h.za, h.zc, h.zt, h.lt, h.ln, by rw [List.length_set]; exact h.lm⟩
  · rw [List.length_set, hset]
    exact Own.fram (w := { w with drawn := d }) h.oc f (no h.oc (by decide))
  · exact fun j t ht => (h.tw j t ht).framT f (fun b hb h3 => by
      rcases h3 with rfl | rfl
      · exact (h.tw j t ht).noT q1 rfl hb
      · exact (h.tw j t ht).noT q2 rfl hb) (fun b l' h1 => ne b l' _ h1 (by decide))
  · exact h.la.framS f (fun j c hc => by
      obtain ⟨p1, p2, -⟩ := h.la.al j c hc
      exact ⟨ne _ _ _ p1 (by decide), ne _ _ _ p2 (by decide)⟩)

/-- All blocks lie below the world's size. -/
theorem WS.ltA (h : WS w z VX VM VA VC ts As Cs N) {i : Nat} {a : LA (List Int)} (hi : As[i]? = some a) : a.rb < w.heap.size ∧ a.cb < w.heap.size := by
  obtain ⟨q1, q2, -⟩ := h.la.al i a hi
  exact ⟨q1.lt, q2.lt⟩
theorem WS.ltC (h : WS w z VX VM VA VC ts As Cs N) {i : Nat} {a : LA (List UInt8)} (hi : Cs[i]? = some a) : a.rb < w.heap.size ∧ a.cb < w.heap.size := by
  obtain ⟨q1, q2, -⟩ := h.lc.al i a hi
  exact ⟨q1.lt, q2.lt⟩

/-- One list of matches more. -/
theorem WS.moreA {VA' : Value} (h : WS w z VX VM VA VC ts As Cs N) {a : LA (List Int)} (oa : Own w'.heap VA' 130 2 (As.length + 1) (rws alc As ++ alc a)) (hnb : nob VA VA' w) (f : Fram (own1 VA) { w with drawn := d } w')
    (hN : As.length + 1 ≤ N) (hz : z ≤ w.heap.size) (h1 : Blk w'.heap a.rb (rws capc a.L) 55) (h2 : Blk w'.heap a.cb (rws capc a.L) 55) (hl : a.L.length ≤ 257) (hrc : a.rb ≠ a.cb)
    (hz1 : z ≤ a.rb) (hz2 : z ≤ a.cb) (hd : ∀ (i : Nat) (b : LA (List Int)), As[i]? = some b → a.rb ≠ b.rb ∧ a.rb ≠ b.cb ∧ a.cb ≠ b.rb ∧ a.cb ≠ b.cb) (ht : ∀ (i : Nat) (t : TT), ts[i]? = some t → ¬ tws t a.rb ∧ ¬ tws t a.cb) : WS w' z VX VM VA' VC ts (As ++ [a]) Cs N := by
  have ne : ∀ b l ty, Blk w.heap b l ty → ty ≠ 130 → ¬ own1 VA b := fun b l ty hb ho h3 => by
    obtain ⟨l', hl'⟩ := own_ty h.oa h3
    exact ho (hb.uniq hl').2
  have no : ∀ {v : Value} {e k n : Nat} {xs : List Value}, Own w.heap v e k n xs → e ≠ 130 → ∀ b, v.ownBlock = some b → ¬ own1 VA b := fun ho he b hb' => by
    obtain ⟨l, hl⟩ := own_ty ho hb'
    exact ne b l _ hl he
  refine ⟨Own.fram (w := { w with drawn := d }) h.ox f (no h.ox (by decide)), Own.fram (w := { w with drawn := d }) h.om f (no h.om (by decide)), ?_, Own.fram (w := { w with drawn := d }) h.oc f (no h.oc (by decide)), ?_, ?_, ?_, h.dt, ?_, h.zx, h.zm, ?_, h.zc, h.zt, h.lt, by rw [List.length_append]; exact hN, h.lm⟩
  · rw [rws_app, rws_one, List.length_append]
    exact oa
  · exact fun j t ht => (h.tw j t ht).framT f (fun b hb h3 => by
      obtain ⟨l', hl'⟩ := own_ty h.oa h3
      exact (h.tw j t ht).noT hl' rfl hb) (fun b l' h1 => ne b l' _ h1 (by decide))
  · refine LvW.more (h.la.framS f (fun j c hc => ?_)) h1 h2 hl hrc hz1 hz2 hd
    obtain ⟨p1, p2, -⟩ := h.la.al j c hc
    exact ⟨ne _ _ _ p1 (by decide), ne _ _ _ p2 (by decide)⟩
  · exact h.lc.framS f (fun j c hc => by
      obtain ⟨p1, p2, -⟩ := h.lc.al j c hc
      exact ⟨ne _ _ _ p1 (by decide), ne _ _ _ p2 (by decide)⟩)
  · intro j t k b hj hb
    rcases snoc_get hb with hb | ⟨-, rfl⟩
    · exact h.dl j t k b hj hb
    · exact ht j t hj
  · intro b hb
    rcases hnb b hb with h' | h'
    · exact h.za b h'
    · omega

/-- One list of pieces more. -/
theorem WS.moreC {VC' : Value} (h : WS w z VX VM VA VC ts As Cs N) {a : LA (List UInt8)} (oc : Own w'.heap VC' 133 2 (Cs.length + 1) (rws alc Cs ++ alc a)) (hnb : nob VC VC' w) (f : Fram (own1 VC) { w with drawn := d } w')
    (hN : Cs.length + 1 ≤ N) (hz : z ≤ w.heap.size) (h1 : Blk w'.heap a.rb (rws txc a.L) 9) (h2 : Blk w'.heap a.cb (rws txc a.L) 9) (hl : a.L.length ≤ 258) (hrc : a.rb ≠ a.cb)
    (hz1 : z ≤ a.rb) (hz2 : z ≤ a.cb) (hd : ∀ (i : Nat) (b : LA (List UInt8)), Cs[i]? = some b → a.rb ≠ b.rb ∧ a.rb ≠ b.cb ∧ a.cb ≠ b.rb ∧ a.cb ≠ b.cb) : WS w' z VX VM VA VC' ts As (Cs ++ [a]) N := by
  have ne : ∀ b l ty, Blk w.heap b l ty → ty ≠ 133 → ¬ own1 VC b := fun b l ty hb ho h3 => by
    obtain ⟨l', hl'⟩ := own_ty h.oc h3
    exact ho (hb.uniq hl').2
  have no : ∀ {v : Value} {e k n : Nat} {xs : List Value}, Own w.heap v e k n xs → e ≠ 133 → ∀ b, v.ownBlock = some b → ¬ own1 VC b := fun ho he b hb' => by
    obtain ⟨l, hl⟩ := own_ty ho hb'
    exact ne b l _ hl he
  refine ⟨Own.fram (w := { w with drawn := d }) h.ox f (no h.ox (by decide)), Own.fram (w := { w with drawn := d }) h.om f (no h.om (by decide)), Own.fram (w := { w with drawn := d }) h.oa f (no h.oa (by decide)), ?_, ?_, ?_, ?_, h.dt, h.dl, h.zx, h.zm, h.za, ?_, h.zt, h.lt, h.ln, by rw [List.length_append]; exact hN⟩
  · rw [rws_app, rws_one, List.length_append]
    exact oc
  · exact fun j t ht => (h.tw j t ht).framT f (fun b hb h3 => by
      obtain ⟨l', hl'⟩ := own_ty h.oc h3
      exact (h.tw j t ht).noT hl' rfl hb) (fun b l' h1 => ne b l' _ h1 (by decide))
  · exact h.la.framS f (fun j c hc => by
      obtain ⟨p1, p2, -⟩ := h.la.al j c hc
      exact ⟨ne _ _ _ p1 (by decide), ne _ _ _ p2 (by decide)⟩)
  · refine LvW.more (h.lc.framS f (fun j c hc => ?_)) h1 h2 hl hrc hz1 hz2 hd
    obtain ⟨p1, p2, -⟩ := h.lc.al j c hc
    exact ⟨ne _ _ _ p1 (by decide), ne _ _ _ p2 (by decide)⟩
  · intro b hb
    rcases hnb b hb with h' | h'
    · exact h.zc b h'
    · omega

/-- One tower more. -/
theorem WS.moreT {VX' VM' : Value} (h : WS w z VX VM VA VC ts As Cs N) {t : TT} (ox : Own w'.heap VX' 24 1 (ts.length + 1) (ts.map (fun t => ptr t.F.fb) ++ [ptr t.F.fb])) (om : Own w'.heap VM' 22 1 (ts.length + 1) (ts.map (fun t => ptr t.gb) ++ [ptr t.gb]))
    (hnx : nob VX VX' w) (hnm : nob VM VM' w) {wb : Nat} {lw : List Value} (hwb : Blk w.heap wb lw 76) (f : Fram (fun b => b = wb ∨ own1 VX b ∨ own1 VM b) { w with drawn := d } w') (hN : ts.length + 1 ≤ N) (hz : z ≤ w.heap.size) (P : PT w t N) (hzt : ∀ b, tws t b → z ≤ b)
    (hdt : ∀ (i : Nat) (u : TT) (b : Nat), ts[i]? = some u → tws u b → ¬ tws t b) (hdl : ∀ (j : Nat) (a : LA (List Int)), As[j]? = some a → ¬ tws t a.rb ∧ ¬ tws t a.cb) : WS w' z VX' VM' VA VC (ts ++ [t]) As Cs N := by
  have ne : ∀ b l ty, Blk w.heap b l ty → ty ≠ 24 → ty ≠ 22 → ty ≠ 76 → ¬ (b = wb ∨ own1 VX b ∨ own1 VM b) := fun b l ty hb ho ho2 ho3 h3 => by
    rcases h3 with rfl | h3 | h3
    · exact ho3 (hb.uniq hwb).2
    · obtain ⟨l', hl'⟩ := own_ty h.ox h3
      exact ho (hb.uniq hl').2
    · obtain ⟨l', hl'⟩ := own_ty h.om h3
      exact ho2 (hb.uniq hl').2
  have no : ∀ {v : Value} {e k n : Nat} {xs : List Value}, Own w.heap v e k n xs → e ≠ 24 → e ≠ 22 → e ≠ 76 → ∀ b, v.ownBlock = some b → ¬ (b = wb ∨ own1 VX b ∨ own1 VM b) := fun ho he he2 he3 b hb' => by
    obtain ⟨l, hl⟩ := own_ty ho hb'
    exact ne b l _ hl he he2 he3
  have hty : ∀ b, (b = wb ∨ own1 VX b ∨ own1 VM b) → ∃ l ty, Blk w.heap b l ty ∧ othT ty = true := by
    rintro b (rfl | h3 | h3)
    · exact ⟨_, _, hwb, rfl⟩
    · obtain ⟨l', hl'⟩ := own_ty h.ox h3
      exact ⟨l', _, hl', rfl⟩
    · obtain ⟨l', hl'⟩ := own_ty h.om h3
      exact ⟨l', _, hl', rfl⟩
  have fT : ∀ u, PT w u N → PT w' u N := fun u hu => hu.framT f (fun b hb h3 => by
      obtain ⟨l', ty, hl', ho⟩ := hty b h3
      exact hu.noT hl' ho hb) (fun b l' h1 => ne b l' _ h1 (by decide) (by decide) (by decide))
  refine ⟨by rw [List.map_append, List.length_append]; exact ox, by rw [List.map_append, List.length_append]; exact om, Own.fram (w := { w with drawn := d }) h.oa f (no h.oa (by decide) (by decide) (by decide)), Own.fram (w := { w with drawn := d }) h.oc f (no h.oc (by decide) (by decide) (by decide)), ?_, ?_, ?_, ?_, ?_, ?_, ?_, h.za, h.zc, ?_, by rw [List.length_append]; exact hN, h.ln, h.lm⟩
  · intro i u hu
    rcases snoc_get hu with hu | ⟨-, rfl⟩
    · exact fT u (h.tw i u hu)
    · exact fT u P
  · exact h.la.framS f (fun j c hc => by
      obtain ⟨p1, p2, -⟩ := h.la.al j c hc
      exact ⟨ne _ _ _ p1 (by decide) (by decide) (by decide), ne _ _ _ p2 (by decide) (by decide) (by decide)⟩)
  · exact h.lc.framS f (fun j c hc => by
      obtain ⟨p1, p2, -⟩ := h.lc.al j c hc
      exact ⟨ne _ _ _ p1 (by decide) (by decide) (by decide), ne _ _ _ p2 (by decide) (by decide) (by decide)⟩)
  · intro i j u v b hu hv hij hb
    rcases snoc_get hu with hu1 | ⟨e1, rfl⟩ <;> rcases snoc_get hv with hv1 | ⟨e2, rfl⟩
    · exact h.dt i j u v b hu1 hv1 hij hb
    · exact hdt i u b hu1 hb
    · exact fun hb' => hdt j v b hv1 hb' hb
    · exact absurd (e1.trans e2.symm) hij
  · intro i u j a hu ha
    rcases snoc_get hu with hu | ⟨e1, rfl⟩
    · exact h.dl i u j a hu ha
    · exact hdl j a ha
  · intro b hb
    rcases hnx b hb with h' | h'
    · exact h.zx b h'
    · omega
  · intro b hb
    rcases hnm b hb with h' | h'
    · exact h.zm b h'
    · omega
  · intro i u b hu hb
    rcases snoc_get hu with hu | ⟨e1, rfl⟩
    · exact h.zt i u b hu hb
    · exact hzt b hb
end

/-- The world, over the blocks that stood before it. -/
def TWI (w0 w : World) (wb N : Nat) : Prop := ∃ VX VM VA VC tm rg ts As Cs, Blk w.heap wb [VX, VM, S tm, .int .i64 rg, VA, VC] 76 ∧ WS w w0.heap.size VX VM VA VC ts As Cs N ∧ w0.heap.size ≤ wb ∧ tm.length ≤ 9223372036854775807 ∧ Fram none' w0 w

end Go.Proofs.Qxb6500567aGreat
