import Derived.Test.Qxb6500567aGreatKc
import Derived.Test.Qxb6500567aGreatSa
/- The lock-step machine: step. -/
namespace Go.Proofs.Qxb6500567aGreat
set_option linter.unusedVariables false
set_option linter.unusedSimpArgs false

theorem follow_pcs {p : List Ins} {n i pc : Nat} {l : List Ent} {st : List Frm} {reg : List Int} : ∃ c, (follow p n i l st reg pc).l = l ++ [(pc, c)] := by
  unfold follow
  split <;> exact ⟨_, rfl⟩

theorem arun_in {p : List Ins} (hp : PrgOK p) {n i : Nat} : ∀ (m : Nat) (l l' : List Ent) (st : List Frm) (reg reg' : List Int), arun p n i m ⟨l, st, reg⟩ = some ⟨l', [], reg'⟩ → (∀ e ∈ l, e.1 < p.length) → (∀ x ∈ st, FrmOK p x) → ∀ e ∈ l', e.1 < p.length := by
  intro m
  induction m with
  | zero =>
    intro l l' st reg reg' h hl hs
    cases st with
    | nil => rw [arun_nil] at h; cases h; exact hl
    | cons x st => simp [arun] at h
  | succ m ih =>
    intro l l' st reg reg' h hl hs
    cases st with
    | nil => rw [arun_nil] at h; cases h; exact hl
    | cons x st =>
      have hs' : ∀ y ∈ st, FrmOK p y := fun y hy => hs y (List.mem_cons_of_mem _ hy)
      have hx := hs x (List.mem_cons_self ..)
      rcases x with q | ⟨k, v⟩
      · simp only [arun] at h
        split at h
        · exact ih _ _ _ _ _ h hl hs'
        · cases hf : follow p n i l st reg q with
          | mk l1 st1 reg1 =>
            rw [hf] at h
            refine ih _ _ _ _ _ h ?_ (follow_ok hp hf hs')
            obtain ⟨c, hc⟩ := follow_pcs (p := p) (n := n) (i := i) (pc := q) (l := l) (st := st) (reg := reg)
            rw [hf] at hc
            simp only at hc
            subst hc
            intro e he
            rcases List.mem_append.1 he with he | he
            · exact hl e he
            · simp at he
              subst he
              exact hx
      · simp only [arun] at h
        exact ih _ _ _ _ _ h hl hs'

theorem AddR.in' {p : List Ins} (hp : PrgOK p) {n i pc : Nat} {l l' : List Ent} {c : List Int} (h : AddR p n i l pc c l') (hl : ∀ e ∈ l, e.1 < p.length) (hpc : pc < p.length) : ∀ e ∈ l', e.1 < p.length := by
  obtain ⟨m, hm⟩ := h
  exact arun_in hp m l l' _ c c hm hl (fun x hx => by simp at hx; subst hx; exact hpc)

theorem step_cases {p : List Ins} {s : List UInt8} {i : Nat} {e : Ent} {es nl nl2 : List Ent} {w : Option (List Int)} {y : Ins} (h : StepR p s i (e :: es) nl nl2 w) (hy : p[e.1]? = some y) :
    (y = .mat ∧ nl2 = nl ∧ w = some (e.2.set 1 i)) ∨
    (∃ S b nl1, y = .chr S ∧ s[i]? = some b ∧ S.testBit b.toNat = true ∧ AddR p s.length (i + 1) nl (e.1 + 1) e.2 nl1 ∧ StepR p s i es nl1 nl2 w) ∨
    (∃ S b, y = .chr S ∧ s[i]? = some b ∧ S.testBit b.toNat = false ∧ StepR p s i es nl nl2 w) ∨
    (∃ S, y = .chr S ∧ s.length ≤ i ∧ StepR p s i es nl nl2 w) ∨
    ((insR y).op ≠ 0 ∧ (insR y).op ≠ 6 ∧ StepR p s i es nl nl2 w) := by
  unfold StepR at h
  rw [hy] at h
  rcases y with S | ⟨a, b⟩ | a | a | ⟨⟩ | ⟨⟩ | ⟨⟩
  · simp only at h
    cases hb : s[i]? with
    | none =>
      rw [hb] at h
      exact .inr (.inr (.inr (.inl ⟨S, rfl, by simpa using hb, h⟩)))
    | some b =>
      rw [hb] at h
      simp only at h
      cases ht : S.testBit b.toNat with
      | true =>
        rw [ht, if_pos rfl] at h
        obtain ⟨nl1, h1, h2⟩ := h
        exact .inr (.inl ⟨S, b, nl1, rfl, rfl, ht, h1, h2⟩)
      | false =>
        rw [ht, if_neg (by simp)] at h
        exact .inr (.inr (.inl ⟨S, b, rfl, rfl, ht, h⟩))
  · exact .inr (.inr (.inr (.inr ⟨by simp [insR], by simp [insR], h⟩)))
  · exact .inr (.inr (.inr (.inr ⟨by simp [insR], by simp [insR], h⟩)))
  · exact .inr (.inr (.inr (.inr ⟨by simp [insR], by simp [insR], h⟩)))
  · exact .inr (.inr (.inr (.inr ⟨by simp [insR], by simp [insR], h⟩)))
  · exact .inr (.inr (.inr (.inr ⟨by simp [insR], by simp [insR], h⟩)))
  · exact .inl ⟨rfl, h.1, h.2⟩

theorem AF.n0 {P : PK} {f : Nat → Value} {sp z j : Nat} {v : Value} (h : AF P f sp z) (hj : j < 2) : AF P (pt f (j * 130 + 128) v) sp z := by
  refine ⟨fun j hj => ?_, ?_, ?_, ?_, ?_, ?_, ?_, fun j q hj hq => ?_⟩
  · rw [pt_ne (by omega)]; exact h.c j hj
  · rw [pt_ne (by omega)]; exact h.st
  · rw [pt_ne (by omega)]; exact h.sp
  · rw [pt_ne (by omega)]; exact h.rg
  · rw [pt_ne (by omega)]; exact h.bs
  · rw [pt_ne (by omega)]; exact h.nn
  · rw [pt_ne (by omega)]; exact h.z
  · rw [pt_ne (by omega)]; exact h.sv j q hj hq

theorem lv_n0 {f : Nat → Value} {j : Nat} : LV (pt f (j * 130 + 128) (i64c 0)) j [] := ⟨pt_same, fun k e h => by simp at h, by simp, fun e h => by simp at h⟩
theorem lv_n0O {f : Nat → Value} {i j : Nat} {v : Value} {l : List Ent} (h : LV f i l) (hi : i < 2) (hj : j < 2) (hij : i ≠ j) : LV (pt f (j * 130 + 128) v) i l := by
  have hl := h.len
  refine ⟨?_, fun k e hk => ?_, h.nd, h.lt⟩
  · rw [pt_ne (by omega)]; exact h.n
  · obtain ⟨h1, h2⟩ := h.at' k e hk
    have hkl := (List.getElem?_eq_some_iff.1 hk).1
    have hel := h.lt e (List.mem_of_getElem? hk)
    rw [pt_ne (by omega), pt_ne (by omega)]
    exact ⟨h1, h2⟩

/-- What step touches. -/
def tset (P : PK) (i : Nat) : Nat → Prop := fun k => k = P.pb ∨ k = P.c (1 - i) ∨ k = P.st ∨ k = P.rg ∨ k = P.bs

/-- The whole machine in memory, list i at hand. -/
structure MM (w : World) (P : PK) (i : Nat) (f h ho sf : Nat → Value) (reg best : List Int) (z : Nat) : Prop where
  blk : FB w.heap P.pb 266 f 108
  cc : FB w.heap (P.c i) 512 h 3
  oc : FB w.heap (P.c (1 - i)) 512 ho 3
  st : FB w.heap P.st 195 sf 182
  rg : FB w.heap P.rg 8 (rgv reg) 3
  bs : FB w.heap P.bs 8 (rgv best) 3
  nn : FB w.heap P.nn 8 (fun _ => icv (-1)) 3
  af : AF P f 0 z
  r8 : reg.length = 8
  b8 : best.length = 8

theorem cpf_rgv {f h : Nat → Value} {c : List Int} {o : Nat} (hh : ∀ j, j < 8 → h (o + j) = rgv c j) : cel 8 (cpf f 0 h o (8 * 1)) = cel 8 (rgv c) := by
  apply cel_congr
  intro j hj
  rw [cpf_in (by omega) (by omega), Nat.sub_zero]
  exact hh j hj

set_option maxHeartbeats 16000000 in
theorem step65 {w : World} {P : PK} {i at0 gb z : Nat} {f h h2 sf : Nat → Value} {p : List Ins} {s : List UInt8} {l nl : List Ent} {wn : Option (List Int)} {reg best : List Int} (ho : PKo P) (M : MM w P i f h h2 sf reg best z) (hi : i < 2) (hL : LV f i l) (hcp : CP p h l) (hlp : ∀ e ∈ l, e.1 < p.length) (hG : PGB w.heap gb (insL p)) (hp : PrgOK p) (hstep : StepR p s at0 l [] nl wn) (hz : z ≤ 10000000) (hat : at0 ≤ s.length) (hs : s.length ≤ 256) :
    Ret Tryz.prog 65 [ptr P.pb, pgs gb p.length, S s, i64c i, i64c at0] w (fun v w' => v = .bool wn.isSome ∧ (∃ f' h2' sf' reg' best' z', z' ≤ z + 15000 ∧ MM w' P (1 - i) f' h2' h sf' reg' best' z' ∧ LV f' (1 - i) nl ∧ CP p h2' nl ∧ (∀ e ∈ nl, e.1 < p.length) ∧ wn.getD best = best') ∧ PGB w'.heap gb (insL p) ∧ Fram (tset P i) w w') := by
  have hF : Fram (tset P i) w w := Fram.refl _ _
  obtain ⟨hB, hC, hO, hK, hR, hE, hN, hA, hr8, hb8⟩ := M
  have o1 := (ho.mid hi).1
  have o2 := (ho.mid hi).2
  have o1' := (ho.mid (show 1 - i < 2 by omega)).1
  have o2' := (ho.mid (show 1 - i < 2 by omega)).2
  have o0 : P.c i ≠ P.c (1 - i) := by
    have := ho.b
    rcases (show i = 0 ∨ i = 1 by omega) with rfl | rfl
    · show P.c 0 ≠ P.c 1; omega
    · show P.c 1 ≠ P.c 0; omega
  have o3 := ho.d
  have o4 := ho.e
  have o5 := ho.f
  have hple := hp.le
  have hgb : gb ≠ P.pb := fun e => by rw [e] at hG; exact absurd (hG.uniq hB).2 (by decide)
  have hgc : gb ≠ P.c i := fun e => by rw [e] at hG; exact absurd (hG.uniq hC).2 (by decide)
  have hgo : gb ≠ P.c (1 - i) := fun e => by rw [e] at hG; exact absurd (hG.uniq hO).2 (by decide)
  have hgs : gb ≠ P.st := fun e => by rw [e] at hG; exact absurd (hG.uniq hK).2 (by decide)
  have hgr : gb ≠ P.rg := fun e => by rw [e] at hG; exact absurd (hG.uniq hR).2 (by decide)
  have hge : gb ≠ P.bs := fun e => by rw [e] at hG; exact absurd (hG.uniq hE).2 (by decide)
  have hgn : gb ≠ P.nn := fun e => by rw [e] at hG; exact absurd (hG.uniq hN).2 (by decide)
  have hm1 : tset P i P.pb := .inl rfl
  have hm2 : tset P i P.rg := .inr (.inr (.inr (.inl rfl)))
  have hm3 : tset P i P.bs := .inr (.inr (.inr (.inr rfl)))
  have hA0 : AF P (pt f ((1 - i) * 130 + 128) (i64c 0)) 0 z := hA.n0 (by omega)
  have hL0 : LV (pt f ((1 - i) * 130 + 128) (i64c 0)) i l := lv_n0O hL hi (by omega) (by omega)
  have hll := hL.len
  refine ret_of Tryz.func65 rfl Tryz.ntmps65 rfl ?_
  refine c_seq (fun K1 hK1 => ?_)
  refine c_reg ?_ -- region 0 machine.go:129
  refine wl (ro_assign rfl) ?_
  refine wl_nil (x_then (hK1 _ _ ?_))
  clear hK1 K1
  refine forget [(0, _), (1, _), (2, _), (3, _), (4, _)] ⟨rfl, rfl, rfl, rfl, rfl, trivial⟩ (fun e => ?_)
  refine c_seq (fun K2 hK2 => ?_)
  refine c_reg ?_ -- region 1 machine.go:130
  refine wl (ro_move rfl) ?_
  refine wl (ro_arith (r := ((1 - i : Nat) : Int)) rfl rfl (congrArg some (by omega)) (Go.IntWalk.i64_in _ (by omega))) ?_
  refine wl (ro_assign rfl) ?_
  refine wl_nil (x_then (hK2 _ _ ?_))
  clear hK2 K2
  refine forget [(0, _), (1, _), (2, _), (3, _), (4, _), (11, _)] ⟨rfl, rfl, rfl, rfl, rfl, rfl, trivial⟩ (fun e => ?_)
  refine c_seq (fun K3 hK3 => ?_)
  refine c_reg ?_ -- region 2 machine.go:131
  refine wl (ro_move rfl) ?_
  refine wl (ro_move rfl) ?_
  refine wl (ro_nilCheck rfl) ?_
  refine wl (ro_fieldAddr (k := 0) rfl fo_108_0) ?_
  refine wl (ro_indexAddrA (et := 104) (k := 130) rfl rfl ar_105 (rfl) ((by omega : 1 - i < 2))) ?_
  refine wl (ro_fieldAddr (k := 128) rfl fo_104_2) ?_
  refine wl_put rfl rfl rfl sz_3 hB ((cel_lt (by omega))) ((cel_put ((1 - i) * 130 + 128) (by omega))) (fun w1 hB F1 => ?_)
  replace hF := hF.thenDrew.thenO F1 (by first | exact .inr (by omega) | exact .inl rfl | exact .inl (by assumption))
  replace hC := F1.blkO hC (by omega)
  replace hO := F1.blkO hO (by omega)
  replace hK := F1.blkO hK (by omega)
  replace hR := F1.blkO hR (by omega)
  replace hE := F1.blkO hE (by omega)
  replace hN := F1.blkO hN (by omega)
  replace hG := F1.blkO hG (by omega)
  refine wl_nil (x_then (hK3 _ _ ?_))
  clear hK3 K3
  refine c_seq (fun K4 hK4 => ?_)
  refine c_seq (fun K5 hK5 => ?_)
  refine c_reg ?_ -- region 3 machine.go:132
  refine wl (ro_assign rfl) ?_
  refine wl_nil (x_then (hK5 _ _ ?_))
  clear hK5 K5
  refine c_block ?_
  -- loop@r4: live slots [0, 1, 2, 3, 4, 11, 12]
  refine c_loopG (fun m a' w' => ∃ (k : Nat) (nl1 : List Ent) (f1 h1 sf1 : Nat → Value) (reg1 : List Int) (z1 : Nat), m = l.length - k ∧ k ≤ l.length ∧ z1 ≤ z + 201 * k ∧ StepR p s at0 (l.drop k) nl1 nl wn ∧ FB w'.heap P.pb 266 f1 108 ∧ FB w'.heap (P.c i) 512 h 3 ∧ FB w'.heap (P.c (1 - i)) 512 h1 3 ∧ FB w'.heap P.st 195 sf1 182 ∧ FB w'.heap P.rg 8 (rgv reg1) 3 ∧ FB w'.heap P.bs 8 (rgv best) 3 ∧ FB w'.heap P.nn 8 (fun _ => icv (-1)) 3 ∧ AF P f1 0 z1 ∧ reg1.length = 8 ∧ LV f1 i l ∧ LV f1 (1 - i) nl1 ∧ CP p h1 nl1 ∧ (∀ e ∈ nl1, e.1 < p.length) ∧ PGB w'.heap gb (insL p) ∧ Fram (tset P i) w w' ∧ ∃ e, a' = Fr 126 (upds e [(0, ptr P.pb), (1, pgs gb p.length), (2, S s), (3, i64c i), (4, i64c at0), (11, i64c (1 - i : Nat)), (12, i64c k)]) []) l.length ⟨0, [], _, h2, sf, reg, z, rfl, by omega, by omega, hstep, hB, hC, hO, hK, hR, hE, hN, hA0, hr8, hL0, lv_n0, fun k e he ↦ by simp at he, fun e he ↦ by simp at he, hG, hF, kp _ ⟨rfl, rfl, rfl, rfl, rfl, rfl, rfl, trivial⟩⟩ ?_
  clear hB hC hO hK hR hE hN hG hF hA hL hr8 hA0 hL0 hstep
  rintro m a' w1 ⟨k, nl1, f1, h1, sf1, reg1, z1, rfl, hk, hz1, hstep, hB, hC, hO, hK, hR, hE, hN, hA, hr8, hL, hLo, hco, hnp, hG, hF, e, rfl⟩
  refine c_seq (fun K6 hK6 => ?_)
  refine c_seq (fun K7 hK7 => ?_)
  refine c_reg ?_ -- region 4 machine.go:132
  refine wl (ro_move rfl) ?_
  refine wl (ro_move rfl) ?_
  refine wl (ro_move rfl) ?_
  refine wl (ro_nilCheck rfl) ?_
  refine wl (ro_fieldAddr (k := 0) rfl fo_108_0) ?_
  refine wl (ro_indexAddrA (et := 104) (k := 130) rfl rfl ar_105 (rfl) (hi)) ?_
  refine wl (ro_fieldAddr (k := 128) rfl fo_104_2) ?_
  refine wl (ro_loadB rfl sc_3 (hB) (cel_at (by omega) (by omega) hL.n)) ?_
  refine wl (ro_cmp (r := decide (k < l.length)) rfl rfl (congrArg some (decide_eq_decide.2 (by omega)))) ?_
  refine wl_nil (x_then (hK7 _ _ ?_))
  clear hK7 K7
  refine wc_cond rfl (fun hc32 => ?_) (fun hc32 => ?_)
  · try simp only [decide_eq_true_eq, decide_eq_false_iff_not, Bool.not_eq_true', Bool.not_eq_false', Bool.not_eq_eq_eq_not, Bool.not_true, Bool.not_false, beq_iff_eq, bne_iff_ne, ne_eq, beq_eq_false_iff_ne, bne_eq_false_iff_eq, gt_iff_lt, ge_iff_le, Int.not_lt, Int.not_le] at hc32
    obtain ⟨en, hen⟩ : ∃ en, l[k]? = some en := ⟨_, List.getElem?_eq_getElem hc32⟩
    have hdk : l.drop k = en :: l.drop (k + 1) := by
      obtain ⟨h1', h2'⟩ := List.getElem?_eq_some_iff.1 hen
      rw [← h2']
      exact List.drop_eq_getElem_cons h1'
    rw [hdk] at hstep
    have hpcl := hlp en (List.mem_of_getElem? hen)
    obtain ⟨y, hy⟩ : ∃ y, p[en.1]? = some y := ⟨_, List.getElem?_eq_getElem hpcl⟩
    have hld := pg_load hy
    have hok := hp.ok en.1 y hy
    have hcs := step_cases hstep hy
    have hA2 : AF P (pt f1 265 (i64c (z1 + 1 : Nat))) 0 (z1 + 1) := hA.z'
    have hL2 : LV (pt f1 265 (i64c (z1 + 1 : Nat))) i l := hL.pt hi (by omega)
    have hLo2 : LV (pt f1 265 (i64c (z1 + 1 : Nat))) (1 - i) nl1 := hLo.pt (by omega) (by omega)
    refine c_skip (x_then (hK6 _ _ ?_))
    clear hK6 K6
    refine forget [(0, _), (1, _), (2, _), (3, _), (4, _), (11, _), (12, _)] ⟨rfl, rfl, rfl, rfl, rfl, rfl, rfl, trivial⟩ (fun e => ?_)
    refine c_seq (fun K8 hK8 => ?_)
    refine c_block ?_
    refine c_seq (fun K9 hK9 => ?_)
    refine c_reg ?_ -- region 6 machine.go:133
    refine wl (ro_move rfl) ?_
    refine wl (ro_nilCheck rfl) ?_
    refine wl (ro_fieldAddr (k := 265) rfl fo_108_6) ?_
    refine wl (ro_loadB rfl sc_3 (hB) (cel_at (by omega) (by omega) hA.z)) ?_
    refine wl (ro_arith (r := ((z1 + 1 : Nat) : Int)) rfl rfl rfl (Go.IntWalk.i64_in _ (by omega))) ?_
    refine wl (ro_nilCheck rfl) ?_
    refine wl (ro_fieldAddr (k := 265) rfl fo_108_6) ?_
    refine wl_put rfl rfl rfl sz_3 hB ((cel_lt (by omega))) ((cel_put 265 (by omega))) (fun w2 hB F2 => ?_)
    replace hF := hF.thenDrew.thenO F2 (by first | exact .inr (by omega) | exact .inl rfl | exact .inl (by assumption))
    replace hC := F2.blkO hC (by omega)
    replace hO := F2.blkO hO (by omega)
    replace hK := F2.blkO hK (by omega)
    replace hR := F2.blkO hR (by omega)
    replace hE := F2.blkO hE (by omega)
    replace hN := F2.blkO hN (by omega)
    replace hG := F2.blkO hG (by omega)
    refine wl_nil (x_then (hK9 _ _ ?_))
    clear hK9 K9
    refine forget [(0, _), (1, _), (2, _), (3, _), (4, _), (11, _), (12, _)] ⟨rfl, rfl, rfl, rfl, rfl, rfl, rfl, trivial⟩ (fun e => ?_)
    refine c_seq (fun K10 hK10 => ?_)
    refine c_reg ?_ -- region 7 machine.go:134
    refine wl (ro_move rfl) ?_
    refine wl (ro_move rfl) ?_
    refine wl (ro_move rfl) ?_
    refine wl (ro_nilCheck rfl) ?_
    refine wl (ro_fieldAddr (k := 0) rfl fo_108_0) ?_
    refine wl (ro_indexAddrA (et := 104) (k := 130) rfl rfl ar_105 (rfl) (hi)) ?_
    refine wl (ro_fieldAddr (k := 0) rfl fo_104_0) ?_
    refine wl (ro_indexAddrA (et := 3) (k := 1) rfl rfl ar_102 (rfl) ((by omega : k < 64))) ?_
    refine wl (ro_loadB rfl sc_3 (hB) (cel_at (by omega) (by omega) (hL2.at' k en hen).1)) ?_
    refine wl (ro_assign rfl) ?_
    refine wl_nil (x_then (hK10 _ _ ?_))
    clear hK10 K10
    refine forget [(0, _), (1, _), (2, _), (3, _), (4, _), (11, _), (12, _), (13, _)] ⟨rfl, rfl, rfl, rfl, rfl, rfl, rfl, rfl, trivial⟩ (fun e => ?_)
    refine c_seq (fun K11 hK11 => ?_)
    refine c_reg ?_ -- region 8 machine.go:135
    refine wl (ro_move rfl) ?_
    refine wl (ro_move rfl) ?_
    refine wl (ro_indexAddr (et := 175) (k := 7) rfl rfl se_109 (rfl) (hpcl)) ?_
    refine wl (ro_loadAggB rfl ag_175 (hG) (rfl) (hld)) ?_
    refine wl_new (ze_175) (fun xb w3 hbxb hX F3 => ?_)
    have hbsxb := Nat.le_trans hF.size hbxb
    have hneP.pbxb : P.pb < xb := Nat.lt_of_lt_of_le hB.lt hbxb
    have hneP.cixb : P.c i < xb := Nat.lt_of_lt_of_le hC.lt hbxb
    have hneP.c1ixb : P.c (1 - i) < xb := Nat.lt_of_lt_of_le hO.lt hbxb
    have hneP.stxb : P.st < xb := Nat.lt_of_lt_of_le hK.lt hbxb
    have hneP.rgxb : P.rg < xb := Nat.lt_of_lt_of_le hR.lt hbxb
    have hneP.bsxb : P.bs < xb := Nat.lt_of_lt_of_le hE.lt hbxb
    have hneP.nnxb : P.nn < xb := Nat.lt_of_lt_of_le hN.lt hbxb
    have hnegbxb : gb < xb := Nat.lt_of_lt_of_le hG.lt hbxb
    replace hF := hF.thenDrew.thenN F3
    replace hB := F3.blkN hB
    replace hC := F3.blkN hC
    replace hO := F3.blkN hO
    replace hK := F3.blkN hK
    replace hR := F3.blkN hR
    replace hE := F3.blkN hE
    replace hN := F3.blkN hN
    replace hG := F3.blkN hG
    refine wl_puta rfl rfl ((ric_cells _)) sz_175 (rfl) hX ((by simp)) ((show _ = ric (insR y) from rfl)) (fun w4 hX F4 => ?_)
    replace hF := hF.thenDrew.thenO F4 (by first | exact .inr (by omega) | exact .inl rfl | exact .inl (by assumption))
    replace hB := F4.blkO hB (by omega)
    replace hC := F4.blkO hC (by omega)
    replace hO := F4.blkO hO (by omega)
    replace hK := F4.blkO hK (by omega)
    replace hR := F4.blkO hR (by omega)
    replace hE := F4.blkO hE (by omega)
    replace hN := F4.blkO hN (by omega)
    replace hG := F4.blkO hG (by omega)
    refine wl_nil (x_then (hK11 _ _ ?_))
    clear hK11 K11
    refine c_seq (fun K12 hK12 => ?_)
    refine c_seq (fun K13 hK13 => ?_)
    rcases hcs with ⟨rfl, hq1, hq2⟩ | ⟨Z, b, nl3, rfl, hb, htb, had, hst⟩ | ⟨Z, b, rfl, hb, htb, hst⟩ | ⟨Z, rfl, hsl, hst⟩ | ⟨hn0, hn6, hst⟩
    · skip
      subst hq1
      have hcpk := hcp k en hen (by simp [waits, hy])
      refine c_reg ?_ -- region 9 machine.go:136
      refine wl (ro_fieldAddr (k := 0) rfl fo_175_0) ?_
      refine wl (ro_loadB rfl sc_3 (hX) (rfl)) ?_
      refine wl (ro_cmp (r := true) rfl rfl rfl) ?_
      refine wl_nil (x_then (hK13 _ _ ?_))
      clear hK13 K13
      refine wc_condT rfl ?_
      refine c_seq (fun K14 hK14 => ?_)
      refine c_piL9 17 [(0, false), (1, false), (2, false), (3, false), (4, false), (5, false), (6, false), (7, false), (8, false), (9, false), (10, false), (11, false), (12, false), (13, false), (14, false), (15, false), (16, false)] (SameH _) mixed (by kernel_rfl) rfl (by kernel_rfl) (po_then (po_then (po_blk (po_then (po_then (po_blk (po_then (po_bp)))))))) (sameH_now _ _) ?_ -- region 10 machine.go:137
      refine ql_ro rfl (fun w hS => ro_move rfl) ?_
      refine ql_ro rfl (fun w hS => ro_nilCheck rfl) ?_
      refine ql_ro rfl (fun w hS => ro_fieldAddr (k := 263) rfl fo_108_4) ?_
      refine ql_ro rfl (fun w hS => ro_loadB rfl sc_97 (Blk.of_heap hB hS) (cel_at (by omega) (by omega) hA2.bs)) ?_
      refine ql_ro rfl (fun w hS => ro_move rfl) ?_
      refine ql_ro rfl (fun w hS => ro_move rfl) ?_
      refine ql_ro rfl (fun w hS => ro_nilCheck rfl) ?_
      refine ql_ro rfl (fun w hS => ro_fieldAddr (k := 0) rfl fo_108_0) ?_
      refine ql_ro rfl (fun w hS => ro_indexAddrA (et := 104) (k := 130) rfl rfl ar_105 (rfl) (hi)) ?_
      refine ql_ro rfl (fun w hS => ro_fieldAddr (k := 129) rfl fo_104_3) ?_
      refine ql_ro rfl (fun w hS => ro_loadB rfl sc_97 (Blk.of_heap hB hS) (cel_at (by omega) (by omega) (hA2.c i hi))) ?_
      refine ql_ro rfl (fun w hS => ro_move rfl) ?_
      refine ql_ro rfl (fun w hS => ro_arith (r := ((k * 8 : Nat) : Int)) rfl rfl (congrArg some (by simp)) (Go.IntWalk.i64_in _ (by omega))) ?_
      refine ql_ro rfl (fun w hS => ro_move rfl) ?_
      refine ql_ro rfl (fun w hS => ro_arith (r := ((k + 1 : Nat) : Int)) rfl rfl rfl (Go.IntWalk.i64_in _ (by omega))) ?_
      refine ql_ro rfl (fun w hS => ro_arith (r := (((k + 1) * 8 : Nat) : Int)) rfl rfl (congrArg some (by simp)) (Go.IntWalk.i64_in _ (by omega))) ?_
      refine ql_ro rfl (fun w hS => ro_sliceN (l := k * 8) (h := (k + 1) * 8) rfl rfl rfl se_97 rfl rfl (by omega) (by omega) (by omega)) ?_
      refine ql_copy (m := 8) (k := 1) rfl rfl rfl se_97 hE hC (by show min _ _ = _; omega) (fun j hj ↦ by rw [show 0 + k * 8 * 1 + j = k * 8 + j by omega, hcpk.2 j (by omega)]; rfl) (by omega) (by omega) ?_
      intro w3 hE F3
      replace hF := hF.transG F3 (by intro k hk h; simp only [one, two, none', fset, tset] at h ⊢ <;> omega)
      replace hB := F3.blkF hB (by intro h; simp only [one, two, none', fset, tset] at h <;> omega)
      replace hC := F3.blkF hC (by intro h; simp only [one, two, none', fset, tset] at h <;> omega)
      replace hO := F3.blkF hO (by intro h; simp only [one, two, none', fset, tset] at h <;> omega)
      replace hK := F3.blkF hK (by intro h; simp only [one, two, none', fset, tset] at h <;> omega)
      replace hR := F3.blkF hR (by intro h; simp only [one, two, none', fset, tset] at h <;> omega)
      replace hN := F3.blkF hN (by intro h; simp only [one, two, none', fset, tset] at h <;> omega)
      replace hG := F3.blkF hG (by intro h; simp only [one, two, none', fset, tset] at h <;> omega)
      replace hX := F3.blkF hX (by intro h; simp only [one, two, none', fset, tset] at h <;> omega)
      replace hE : FB w3.heap P.bs 8 (rgv en.2) 3 := by
        have e8 := cpf_rgv (f := rgv best) (h := h) (o := 0 + k * 8 * 1) (c := en.2) (fun j hj => by rw [show 0 + k * 8 * 1 + j = k * 8 + j by omega]; exact hcpk.2 j hj)
        show Blk _ _ _ _
        rw [← e8]
        exact hE
      refine x_then (hK14 _ _ ?_)
      clear hK14 K14
      refine forget [(0, _), (4, _)] ⟨rfl, rfl, trivial⟩ (fun e => ?_)
      refine c_seq (fun K15 hK15 => ?_)
      refine c_reg ?_ -- region 11 machine.go:138
      refine wl (ro_move rfl) ?_
      refine wl (ro_nilCheck rfl) ?_
      refine wl (ro_fieldAddr (k := 263) rfl fo_108_4) ?_
      refine wl (ro_loadB rfl sc_97 (hB) (cel_at (by omega) (by omega) hA2.bs)) ?_
      refine wl (ro_move rfl) ?_
      refine wl (ro_indexAddr (et := 3) (k := 1) rfl rfl se_97 ((show (1 : Int) = ((1 : Nat) : Int) from rfl)) ((by omega : 1 < 8))) ?_
      refine wl_put rfl rfl rfl sz_3 hE ((cel_lt (by omega))) ((cel_put 1 (by omega))) (fun w5 hE F5 => ?_)
      replace hF := hF.thenDrew.thenO F5 (by first | exact .inr (by omega) | exact .inl rfl | exact .inl (by assumption))
      replace hB := F5.blkO hB (by omega)
      replace hC := F5.blkO hC (by omega)
      replace hO := F5.blkO hO (by omega)
      replace hK := F5.blkO hK (by omega)
      replace hR := F5.blkO hR (by omega)
      replace hN := F5.blkO hN (by omega)
      replace hG := F5.blkO hG (by omega)
      replace hX := F5.blkO hX (by omega)
      refine wl_nil (x_then (hK15 _ _ ?_))
      clear hK15 K15
      refine forget [] trivial (fun e => ?_)
      refine c_seq (fun K16 hK16 => ?_)
      refine c_reg ?_ -- region 12 machine.go:139
      refine wl (ro_assign rfl) ?_
      refine wl_nil (x_then (hK16 _ _ ?_))
      clear hK16 K16
      refine c_ret (x_thenR (x_blkR (x_thenR (x_thenR (x_blkR (x_thenR ?_))))))
      refine bp_ret Tryz.results65 rfl ?_
      subst hq2
      exact ⟨rfl, ⟨_, h1, sf1, reg1, en.2.set 1 at0, z1 + 1, by omega, ⟨hB, hO, by rw [show 1 - (1 - i) = i by omega]; exact hC, hK, hR, by rw [rgv_set (by omega)]; exact hE, hN, hA2, hr8, by rw [List.length_set]; exact hcpk.1⟩, hLo2, hco, hnp, rfl⟩, hG, hF⟩
    · skip
      have hcpk := hcp k en hen (by simp [waits, hy])
      have hpc1 : en.1 + 1 < p.length := hok
      have hal : at0 < s.length := (List.getElem?_eq_some_iff.1 hb).1
      refine c_reg ?_ -- region 9 machine.go:136
      refine wl (ro_fieldAddr (k := 0) rfl fo_175_0) ?_
      refine wl (ro_loadB rfl sc_3 (hX) (rfl)) ?_
      refine wl (ro_cmp (r := false) rfl rfl rfl) ?_
      refine wl_nil (x_then (hK13 _ _ ?_))
      clear hK13 K13
      refine wc_condF rfl ?_
      refine c_skip (x_then (hK12 _ _ ?_))
      clear hK12 K12
      refine forget [(0, _), (1, _), (2, _), (3, _), (4, _), (11, _), (12, _), (13, _), (14, _)] ⟨rfl, rfl, rfl, rfl, rfl, rfl, rfl, rfl, rfl, trivial⟩ (fun e => ?_)
      refine c_seq (fun K17 hK17 => ?_)
      refine c_reg ?_ -- region 13 machine.go:141
      refine wl (ro_fieldAddr (k := 0) rfl fo_175_0) ?_
      refine wl (ro_loadB rfl sc_3 (hX) (rfl)) ?_
      refine wl (ro_cmp (r := true) rfl rfl rfl) ?_
      refine wl (ro_move rfl) ?_
      refine wlg_yes rfl (ro_move rfl) ?_
      refine wlg_yes rfl (ro_move rfl) ?_
      refine wlg_yes rfl (ro_lenS rfl st_9) ?_
      refine wlg_yes rfl (ro_cmp (r := true) rfl rfl (congrArg some (decide_eq_true (by omega)))) ?_
      refine wl (ro_pick rfl rfl rfl) ?_
      refine wl_nil (x_then (hK17 _ _ ?_))
      clear hK17 K17
      refine wc_condT rfl ?_
      refine c_seq (fun K18 hK18 => ?_)
      refine c_pi [(0, false), (1, false), (2, false), (3, false), (4, false), (5, true), (6, false)] (fun w' => Blk w'.heap xb (ric (insR (Ins.chr Z))) 175) mixed (by kernel_rfl) rfl (by kernel_rfl) (po_then (po_blk (po_then (po_then (po_blk (po_then (po_bp))))))) (hX) ?_ -- region 14 machine.go:142
      refine pi_ro rfl (fun w hS => ro_fieldAddr (k := 3) rfl fo_175_3) ?_
      refine pi_ro rfl (fun w hS => ro_loadAggB rfl ag_87 (hS) (rfl) (rfl)) ?_
      refine pi_ro rfl (fun w hS => ro_move rfl) ?_
      refine pi_ro rfl (fun w hS => ro_move rfl) ?_
      refine pi_ro rfl (fun w hS => ro_indexS rfl rfl st_9 rfl (hb)) ?_
      refine pi_call rfl rfl en_88 (Has88 (S := Z)) ?_
      rintro _ w6 ⟨hv6, F6⟩
      rw [htb] at hv6
      subst hv6
      replace hF := hF.transG F6 (by intro k hk h; simp only [one, two, none', fset, tset] at h ⊢ <;> omega)
      replace hB := F6.blkF hB (by intro h; simp only [one, two, none', fset, tset] at h <;> omega)
      replace hC := F6.blkF hC (by intro h; simp only [one, two, none', fset, tset] at h <;> omega)
      replace hO := F6.blkF hO (by intro h; simp only [one, two, none', fset, tset] at h <;> omega)
      replace hK := F6.blkF hK (by intro h; simp only [one, two, none', fset, tset] at h <;> omega)
      replace hR := F6.blkF hR (by intro h; simp only [one, two, none', fset, tset] at h <;> omega)
      replace hE := F6.blkF hE (by intro h; simp only [one, two, none', fset, tset] at h <;> omega)
      replace hN := F6.blkF hN (by intro h; simp only [one, two, none', fset, tset] at h <;> omega)
      replace hG := F6.blkF hG (by intro h; simp only [one, two, none', fset, tset] at h <;> omega)
      replace hX := F6.blkF hX (by intro h; simp only [one, two, none', fset, tset] at h <;> omega)
      refine ⟨hX, ?_⟩
      refine pi_ro rfl (fun w hS => ro_assign rfl) ?_
      refine pi_nil (x_then (hK18 _ _ ?_))
      clear hK18 K18
      refine forget [(0, _), (1, _), (2, _), (3, _), (4, _), (11, _), (12, _), (13, _), (15, _), (86, _), (87, _), (88, _), (89, _)] ⟨rfl, rfl, rfl, rfl, rfl, rfl, rfl, rfl, rfl, rfl, rfl, rfl, rfl, trivial⟩ (fun e => ?_)
      refine c_seq (fun K19 hK19 => ?_)
      refine c_reg ?_ -- region 15 machine.go:143
      refine wl (ro_move rfl) ?_
      refine wl_nil (x_then (hK19 _ _ ?_))
      clear hK19 K19
      refine wc_condT rfl ?_
      refine c_seq (fun K20 hK20 => ?_)
      refine c_piL9 17 [(0, false), (1, false), (2, false), (3, false), (4, false), (5, false), (6, false), (7, false), (8, false), (9, false), (10, false), (11, false), (12, false), (13, false), (14, false), (15, false), (16, false)] (SameH _) mixed (by kernel_rfl) rfl (by kernel_rfl) (po_then (po_blk (po_then (po_then (po_blk (po_then (po_bp))))))) (sameH_now _ _) ?_ -- region 16 machine.go:144
      refine ql_ro rfl (fun w hS => ro_move rfl) ?_
      refine ql_ro rfl (fun w hS => ro_nilCheck rfl) ?_
      refine ql_ro rfl (fun w hS => ro_fieldAddr (k := 262) rfl fo_108_3) ?_
      refine ql_ro rfl (fun w hS => ro_loadB rfl sc_97 (Blk.of_heap hB hS) (cel_at (by omega) (by omega) hA2.rg)) ?_
      refine ql_ro rfl (fun w hS => ro_move rfl) ?_
      refine ql_ro rfl (fun w hS => ro_move rfl) ?_
      refine ql_ro rfl (fun w hS => ro_nilCheck rfl) ?_
      refine ql_ro rfl (fun w hS => ro_fieldAddr (k := 0) rfl fo_108_0) ?_
      refine ql_ro rfl (fun w hS => ro_indexAddrA (et := 104) (k := 130) rfl rfl ar_105 (rfl) (hi)) ?_
      refine ql_ro rfl (fun w hS => ro_fieldAddr (k := 129) rfl fo_104_3) ?_
      refine ql_ro rfl (fun w hS => ro_loadB rfl sc_97 (Blk.of_heap hB hS) (cel_at (by omega) (by omega) (hA2.c i hi))) ?_
      refine ql_ro rfl (fun w hS => ro_move rfl) ?_
      refine ql_ro rfl (fun w hS => ro_arith (r := ((k * 8 : Nat) : Int)) rfl rfl (congrArg some (by simp)) (Go.IntWalk.i64_in _ (by omega))) ?_
      refine ql_ro rfl (fun w hS => ro_move rfl) ?_
      refine ql_ro rfl (fun w hS => ro_arith (r := ((k + 1 : Nat) : Int)) rfl rfl rfl (Go.IntWalk.i64_in _ (by omega))) ?_
      refine ql_ro rfl (fun w hS => ro_arith (r := (((k + 1) * 8 : Nat) : Int)) rfl rfl (congrArg some (by simp)) (Go.IntWalk.i64_in _ (by omega))) ?_
      refine ql_ro rfl (fun w hS => ro_sliceN (l := k * 8) (h := (k + 1) * 8) rfl rfl rfl se_97 rfl rfl (by omega) (by omega) (by omega)) ?_
      refine ql_copy (m := 8) (k := 1) rfl rfl rfl se_97 hR hC (by show min _ _ = _; omega) (fun j hj ↦ by rw [show 0 + k * 8 * 1 + j = k * 8 + j by omega, hcpk.2 j (by omega)]; rfl) (by omega) (by omega) ?_
      intro w3 hR F3
      replace hF := hF.transG F3 (by intro k hk h; simp only [one, two, none', fset, tset] at h ⊢ <;> omega)
      replace hB := F3.blkF hB (by intro h; simp only [one, two, none', fset, tset] at h <;> omega)
      replace hC := F3.blkF hC (by intro h; simp only [one, two, none', fset, tset] at h <;> omega)
      replace hO := F3.blkF hO (by intro h; simp only [one, two, none', fset, tset] at h <;> omega)
      replace hK := F3.blkF hK (by intro h; simp only [one, two, none', fset, tset] at h <;> omega)
      replace hE := F3.blkF hE (by intro h; simp only [one, two, none', fset, tset] at h <;> omega)
      replace hN := F3.blkF hN (by intro h; simp only [one, two, none', fset, tset] at h <;> omega)
      replace hG := F3.blkF hG (by intro h; simp only [one, two, none', fset, tset] at h <;> omega)
      replace hX := F3.blkF hX (by intro h; simp only [one, two, none', fset, tset] at h <;> omega)
      replace hR : FB w3.heap P.rg 8 (rgv en.2) 3 := by
        have e8 := cpf_rgv (f := rgv reg1) (h := h) (o := 0 + k * 8 * 1) (c := en.2) (fun j hj => by rw [show 0 + k * 8 * 1 + j = k * 8 + j by omega]; exact hcpk.2 j hj)
        show Blk _ _ _ _
        rw [← e8]
        exact hR
      refine x_then (hK20 _ _ ?_)
      clear hK20 K20
      refine c_reg ?_ -- region 17 machine.go:145
      refine wl (ro_move rfl) ?_
      refine wl (ro_move rfl) ?_
      refine wl (ro_move rfl) ?_
      refine wl (ro_lenS rfl st_9) ?_
      refine wl (ro_move rfl) ?_
      refine wl (ro_move rfl) ?_
      refine wl (ro_arith (r := ((en.1 + 1 : Nat) : Int)) rfl rfl rfl (Go.IntWalk.i64_in _ (by omega))) ?_
      refine wl (ro_move rfl) ?_
      refine wl (ro_arith (r := ((at0 + 1 : Nat) : Int)) rfl rfl rfl (Go.IntWalk.i64_in _ (by omega))) ?_
      refine wl_call rfl en_64 (add64 (z := z1 + 1) ho ⟨hB, hO, hK, hR, hA2, hLo2, hco, SV.nil _, hcpk.1⟩ (by omega) hG hp hpc1 had (by omega) (by omega) (by omega)) ?_
      rintro _ w4 ⟨rfl, ⟨f4, h4, sf4, z4, hz4, M4, hot4⟩, hG, F4⟩
      replace hF := hF.transG F4 (by intro k hk h; simp only [one, two, none', fset, tset] at h ⊢ <;> omega)
      replace hC := F4.blkF hC (by intro h; simp only [one, two, none', fset, tset] at h <;> omega)
      replace hE := F4.blkF hE (by intro h; simp only [one, two, none', fset, tset] at h <;> omega)
      replace hN := F4.blkF hN (by intro h; simp only [one, two, none', fset, tset] at h <;> omega)
      replace hX := F4.blkF hX (by intro h; simp only [one, two, none', fset, tset] at h <;> omega)
      have hin4 := had.in' hp hnp hpc1
      have hL4 := hot4 i l hi (by omega) hL2
      refine wl_nil (x_blk (x_then (hK8 _ _ ?_)))
      clear hK8 K8
      refine c_reg ?_ -- region 5 machine.go:132
      refine wl (ro_move rfl) ?_
      refine wl (ro_arith rfl rfl rfl (Go.IntWalk.i64_in _ (by omega))) ?_
      refine wl (ro_assign rfl) ?_
      refine wl_nil (x_then ?_)
      exact ⟨l.length - (k + 1), by omega, k + 1, nl3, f4, h4, sf4, en.2, z4, rfl, by omega, by omega, hst, M4.blk, hC, M4.cc, M4.st, M4.rg, hE, hN, M4.af, hcpk.1, hL4, M4.lv, M4.cp, hin4, hG, hF, kp _ ⟨rfl, rfl, rfl, rfl, rfl, rfl, rfl, trivial⟩⟩
    · skip
      have hal : at0 < s.length := (List.getElem?_eq_some_iff.1 hb).1
      refine c_reg ?_ -- region 9 machine.go:136
      refine wl (ro_fieldAddr (k := 0) rfl fo_175_0) ?_
      refine wl (ro_loadB rfl sc_3 (hX) (rfl)) ?_
      refine wl (ro_cmp (r := false) rfl rfl rfl) ?_
      refine wl_nil (x_then (hK13 _ _ ?_))
      clear hK13 K13
      refine wc_condF rfl ?_
      refine c_skip (x_then (hK12 _ _ ?_))
      clear hK12 K12
      refine forget [(0, _), (1, _), (2, _), (3, _), (4, _), (11, _), (12, _), (13, _), (14, _)] ⟨rfl, rfl, rfl, rfl, rfl, rfl, rfl, rfl, rfl, trivial⟩ (fun e => ?_)
      refine c_seq (fun K21 hK21 => ?_)
      refine c_reg ?_ -- region 13 machine.go:141
      refine wl (ro_fieldAddr (k := 0) rfl fo_175_0) ?_
      refine wl (ro_loadB rfl sc_3 (hX) (rfl)) ?_
      refine wl (ro_cmp (r := true) rfl rfl rfl) ?_
      refine wl (ro_move rfl) ?_
      refine wlg_yes rfl (ro_move rfl) ?_
      refine wlg_yes rfl (ro_move rfl) ?_
      refine wlg_yes rfl (ro_lenS rfl st_9) ?_
      refine wlg_yes rfl (ro_cmp (r := true) rfl rfl (congrArg some (decide_eq_true (by omega)))) ?_
      refine wl (ro_pick rfl rfl rfl) ?_
      refine wl_nil (x_then (hK21 _ _ ?_))
      clear hK21 K21
      refine wc_condT rfl ?_
      refine c_seq (fun K22 hK22 => ?_)
      refine c_pi [(0, false), (1, false), (2, false), (3, false), (4, false), (5, true), (6, false)] (fun w' => Blk w'.heap xb (ric (insR (Ins.chr Z))) 175) mixed (by kernel_rfl) rfl (by kernel_rfl) (po_then (po_blk (po_then (po_then (po_blk (po_then (po_bp))))))) (hX) ?_ -- region 14 machine.go:142
      refine pi_ro rfl (fun w hS => ro_fieldAddr (k := 3) rfl fo_175_3) ?_
      refine pi_ro rfl (fun w hS => ro_loadAggB rfl ag_87 (hS) (rfl) (rfl)) ?_
      refine pi_ro rfl (fun w hS => ro_move rfl) ?_
      refine pi_ro rfl (fun w hS => ro_move rfl) ?_
      refine pi_ro rfl (fun w hS => ro_indexS rfl rfl st_9 rfl (hb)) ?_
      refine pi_call rfl rfl en_88 (Has88 (S := Z)) ?_
      rintro _ w6 ⟨hv6, F6⟩
      rw [htb] at hv6
      subst hv6
      replace hF := hF.transG F6 (by intro k hk h; simp only [one, two, none', fset, tset] at h ⊢ <;> omega)
      replace hB := F6.blkF hB (by intro h; simp only [one, two, none', fset, tset] at h <;> omega)
      replace hC := F6.blkF hC (by intro h; simp only [one, two, none', fset, tset] at h <;> omega)
      replace hO := F6.blkF hO (by intro h; simp only [one, two, none', fset, tset] at h <;> omega)
      replace hK := F6.blkF hK (by intro h; simp only [one, two, none', fset, tset] at h <;> omega)
      replace hR := F6.blkF hR (by intro h; simp only [one, two, none', fset, tset] at h <;> omega)
      replace hE := F6.blkF hE (by intro h; simp only [one, two, none', fset, tset] at h <;> omega)
      replace hN := F6.blkF hN (by intro h; simp only [one, two, none', fset, tset] at h <;> omega)
      replace hG := F6.blkF hG (by intro h; simp only [one, two, none', fset, tset] at h <;> omega)
      replace hX := F6.blkF hX (by intro h; simp only [one, two, none', fset, tset] at h <;> omega)
      refine ⟨hX, ?_⟩
      refine pi_ro rfl (fun w hS => ro_assign rfl) ?_
      refine pi_nil (x_then (hK22 _ _ ?_))
      clear hK22 K22
      refine forget [(0, _), (1, _), (2, _), (3, _), (4, _), (11, _), (12, _), (13, _), (15, _), (86, _), (87, _), (88, _), (89, _)] ⟨rfl, rfl, rfl, rfl, rfl, rfl, rfl, rfl, rfl, rfl, rfl, rfl, rfl, trivial⟩ (fun e => ?_)
      refine c_seq (fun K23 hK23 => ?_)
      refine c_reg ?_ -- region 15 machine.go:143
      refine wl (ro_move rfl) ?_
      refine wl_nil (x_then (hK23 _ _ ?_))
      clear hK23 K23
      refine wc_condF rfl ?_
      refine c_skip (x_blk (x_then (hK8 _ _ ?_)))
      clear hK8 K8
      refine c_reg ?_ -- region 5 machine.go:132
      refine wl (ro_move rfl) ?_
      refine wl (ro_arith rfl rfl rfl (Go.IntWalk.i64_in _ (by omega))) ?_
      refine wl (ro_assign rfl) ?_
      refine wl_nil (x_then ?_)
      exact ⟨l.length - (k + 1), by omega, k + 1, nl1, _, h1, sf1, reg1, z1 + 1, rfl, by omega, by omega, hst, hB, hC, hO, hK, hR, hE, hN, hA2, hr8, hL2, hLo2, hco, hnp, hG, hF, kp _ ⟨rfl, rfl, rfl, rfl, rfl, rfl, rfl, trivial⟩⟩
    · skip
      refine c_reg ?_ -- region 9 machine.go:136
      refine wl (ro_fieldAddr (k := 0) rfl fo_175_0) ?_
      refine wl (ro_loadB rfl sc_3 (hX) (rfl)) ?_
      refine wl (ro_cmp (r := false) rfl rfl rfl) ?_
      refine wl_nil (x_then (hK13 _ _ ?_))
      clear hK13 K13
      refine wc_condF rfl ?_
      refine c_skip (x_then (hK12 _ _ ?_))
      clear hK12 K12
      refine forget [(0, _), (1, _), (2, _), (3, _), (4, _), (11, _), (12, _), (13, _), (14, _)] ⟨rfl, rfl, rfl, rfl, rfl, rfl, rfl, rfl, rfl, trivial⟩ (fun e => ?_)
      refine c_seq (fun K24 hK24 => ?_)
      refine c_reg ?_ -- region 13 machine.go:141
      refine wl (ro_fieldAddr (k := 0) rfl fo_175_0) ?_
      refine wl (ro_loadB rfl sc_3 (hX) (rfl)) ?_
      refine wl (ro_cmp (r := true) rfl rfl rfl) ?_
      refine wl (ro_move rfl) ?_
      refine wlg_yes rfl (ro_move rfl) ?_
      refine wlg_yes rfl (ro_move rfl) ?_
      refine wlg_yes rfl (ro_lenS rfl st_9) ?_
      refine wlg_yes rfl (ro_cmp (r := false) rfl rfl (congrArg some (decide_eq_false (by omega)))) ?_
      refine wl (ro_pick rfl rfl rfl) ?_
      refine wl_nil (x_then (hK24 _ _ ?_))
      clear hK24 K24
      refine wc_condF rfl ?_
      refine c_skip (x_blk (x_then (hK8 _ _ ?_)))
      clear hK8 K8
      refine c_reg ?_ -- region 5 machine.go:132
      refine wl (ro_move rfl) ?_
      refine wl (ro_arith rfl rfl rfl (Go.IntWalk.i64_in _ (by omega))) ?_
      refine wl (ro_assign rfl) ?_
      refine wl_nil (x_then ?_)
      exact ⟨l.length - (k + 1), by omega, k + 1, nl1, _, h1, sf1, reg1, z1 + 1, rfl, by omega, by omega, hst, hB, hC, hO, hK, hR, hE, hN, hA2, hr8, hL2, hLo2, hco, hnp, hG, hF, kp _ ⟨rfl, rfl, rfl, rfl, rfl, rfl, rfl, trivial⟩⟩
    · skip
      refine c_reg ?_ -- region 9 machine.go:136
      refine wl (ro_fieldAddr (k := 0) rfl fo_175_0) ?_
      refine wl (ro_loadB rfl sc_3 (hX) (rfl)) ?_
      refine wl (ro_cmp (r := false) rfl rfl (congrArg some ((beqc (insR y).op 6).trans (decide_eq_false hn6)))) ?_
      refine wl_nil (x_then (hK13 _ _ ?_))
      clear hK13 K13
      refine wc_condF rfl ?_
      refine c_skip (x_then (hK12 _ _ ?_))
      clear hK12 K12
      refine forget [(0, _), (1, _), (2, _), (3, _), (4, _), (11, _), (12, _), (13, _), (14, _)] ⟨rfl, rfl, rfl, rfl, rfl, rfl, rfl, rfl, rfl, trivial⟩ (fun e => ?_)
      refine c_seq (fun K25 hK25 => ?_)
      refine c_reg ?_ -- region 13 machine.go:141
      refine wl (ro_fieldAddr (k := 0) rfl fo_175_0) ?_
      refine wl (ro_loadB rfl sc_3 (hX) (rfl)) ?_
      refine wl (ro_cmp (r := false) rfl rfl (congrArg some ((beqc (insR y).op 0).trans (decide_eq_false hn0)))) ?_
      refine wl (ro_move rfl) ?_
      refine wlg_no rfl ?_
      refine wlg_no rfl ?_
      refine wlg_no rfl ?_
      refine wlg_no rfl ?_
      refine wl (ro_pick rfl rfl rfl) ?_
      refine wl_nil (x_then (hK25 _ _ ?_))
      clear hK25 K25
      refine wc_condF rfl ?_
      refine c_skip (x_blk (x_then (hK8 _ _ ?_)))
      clear hK8 K8
      refine c_reg ?_ -- region 5 machine.go:132
      refine wl (ro_move rfl) ?_
      refine wl (ro_arith rfl rfl rfl (Go.IntWalk.i64_in _ (by omega))) ?_
      refine wl (ro_assign rfl) ?_
      refine wl_nil (x_then ?_)
      exact ⟨l.length - (k + 1), by omega, k + 1, nl1, _, h1, sf1, reg1, z1 + 1, rfl, by omega, by omega, hst, hB, hC, hO, hK, hR, hE, hN, hA2, hr8, hL2, hLo2, hco, hnp, hG, hF, kp _ ⟨rfl, rfl, rfl, rfl, rfl, rfl, rfl, trivial⟩⟩
  · try simp only [decide_eq_true_eq, decide_eq_false_iff_not, Bool.not_eq_true', Bool.not_eq_false', Bool.not_eq_eq_eq_not, Bool.not_true, Bool.not_false, beq_iff_eq, bne_iff_ne, ne_eq, beq_eq_false_iff_ne, bne_eq_false_iff_eq, gt_iff_lt, ge_iff_le, Int.not_lt, Int.not_le] at hc32
    refine c_exit (x_thenX (x_thenX (x_blkX (x_then (hK4 _ _ ?_)))))
    clear hK6 K6 hK4 K4
    refine forget [] trivial (fun e => ?_)
    refine c_seq (fun K26 hK26 => ?_)
    refine c_reg ?_ -- region 18 machine.go:149
    refine wl (ro_assign rfl) ?_
    refine wl_nil (x_then (hK26 _ _ ?_))
    clear hK26 K26
    refine c_ret ?_
    refine bp_ret Tryz.results65 rfl ?_
    rw [List.drop_eq_nil_of_le (by omega)] at hstep
    obtain ⟨rfl, rfl⟩ := hstep
    exact ⟨rfl, ⟨f1, h1, sf1, reg1, best, z1, by omega, ⟨hB, hO, by rw [show 1 - (1 - i) = i by omega]; exact hC, hK, hR, hE, hN, hA, hr8, hb8⟩, hLo, hco, hnp, rfl⟩, hG, hF⟩

end Go.Proofs.Qxb6500567aGreat
