import Derived.Test.Qxb6500567aGreatIe
/- The automaton: its block; bit, push. -/
namespace Go.Proofs.Qxb6500567aGreat
set_option linter.unusedVariables false
set_option linter.unusedSimpArgs false

theorem bit80 {w : World} {pc : Nat} (h : pc < 64) : Ret Tryz.prog 80 [i64c pc] w (fun v w' => v = u64c (2 ^ pc) ∧ w = w') := by
  have hp : pc % 64 = pc := Nat.mod_eq_of_lt h
  have h2 : (1 * 2 ^ pc) % 2 ^ 64 = 2 ^ pc := by rw [Nat.one_mul]; exact Nat.mod_eq_of_lt (Nat.pow_lt_pow_right (by omega) h)
  refine ret_of Tryz.func80 rfl Tryz.ntmps80 rfl ?_
  refine c_seq (fun K1 hK1 => ?_)
  refine c_reg ?_ -- region 0 sets.go:8
  refine wl (ro_assign rfl) ?_
  refine wl_nil (x_then (hK1 _ _ ?_))
  clear hK1 K1
  refine forget [(0, _)] ⟨rfl, trivial⟩ (fun e => ?_)
  refine c_seq (fun K2 hK2 => ?_)
  refine c_reg ?_ -- region 1 sets.go:8
  refine wl (ro_move rfl) ?_
  refine wl (ro_and63i (a := pc) rfl rfl (by omega)) ?_
  refine wl (ro_conv rfl sc_3 in_209 (Go.IntWalk.u64_in _ (by omega))) ?_
  refine wl (ro_shlU (a := 1) (b := pc % 64) rfl rfl (by omega)) ?_
  refine wl (ro_assign rfl) ?_
  refine wl_nil (x_then (hK2 _ _ ?_))
  clear hK2 K2
  refine c_ret ?_
  refine bp_ret Tryz.results80 rfl ?_
  exact ⟨by rw [hp, h2], rfl⟩

/-- The blocks of the automaton. -/
structure DF where
  db : Nat
  nx : Nat
  sk : Nat

structure DFo (D : DF) : Prop where
  dn : D.db < D.nx
  ns : D.nx < D.sk

/-- Its numbers. -/
structure DN where
  ch : Nat
  en : Nat
  hi : Nat
  K : Nat → Nat
  u : Nat
  bu : Nat
  fl : Nat
  wo : Nat

abbrev dcl (D : DF) (kv : Value) (N : DN) : List Value := [kv, u64c N.ch, u64c N.en, u64c N.hi, u64c (N.K 0), u64c (N.K 1), u64c (N.K 2), u64c (N.K 3), u64c (N.K 4), u64c (N.K 5), i64c N.u, sl D.nx 1536, sl D.sk 64, i64c N.bu, i64c N.fl, i64c N.wo]

theorem key_get {D : DF} {kv : Value} {N : DN} {c : Nat} (h : c < 6) : (dcl D kv N)[0 + 4 + c * 1]? = some (u64c (N.K c)) := by
  have : c = 0 ∨ c = 1 ∨ c = 2 ∨ c = 3 ∨ c = 4 ∨ c = 5 := by omega
  rcases this with rfl | rfl | rfl | rfl | rfl | rfl <;> rfl
def updK (K : Nat → Nat) (c v : Nat) : Nat → Nat := fun i => if i = c then v else K i
theorem key_set {D : DF} {kv : Value} {N : DN} {c v : Nat} (h : c < 6) : (dcl D kv N).set (0 + 4 + c * 1) (u64c v) = dcl D kv { N with K := updK N.K c v } := by
  have : c = 0 ∨ c = 1 ∨ c = 2 ∨ c = 3 ∨ c = 4 ∨ c = 5 := by omega
  rcases this with rfl | rfl | rfl | rfl | rfl | rfl <;> rfl

/-- The closure's work: what was pushed, and what still waits. -/
structure PS (R : Nat) (PU : List Nat) : Prop where
  bit : ∀ pc, R.testBit pc = true ↔ pc ∈ PU
  nd : PU.Nodup
  lt : ∀ pc ∈ PU, pc < 64

theorem PS.lt64 {R : Nat} {PU : List Nat} (h : PS R PU) : R < 2 ^ 64 := by
  apply Nat.lt_pow_two_of_testBit
  intro j hj
  apply Bool.eq_false_iff.2
  intro hb
  have := h.lt j ((h.bit j).1 hb)
  omega
theorem PS.len {R : Nat} {PU : List Nat} (h : PS R PU) : PU.length ≤ 64 := pigeon 64 PU h.nd h.lt

theorem tb_pow {R pc : Nat} : (R &&& 2 ^ pc = 0) ↔ R.testBit pc = false := by
  constructor
  · intro h
    have := congrArg (fun n => Nat.testBit n pc) h
    simp only [Nat.testBit_and, Nat.testBit_two_pow_self, Bool.and_true, Nat.zero_testBit] at this
    exact this
  · intro h
    apply Nat.eq_of_testBit_eq
    intro i
    rw [Nat.testBit_and, Nat.testBit_two_pow, Nat.zero_testBit]
    by_cases hi : pc = i
    · subst hi; simp [h]
    · simp [hi]

theorem PS.push {R : Nat} {PU : List Nat} {pc : Nat} (h : PS R PU) (hpc : pc < 64) (hn : R.testBit pc = false) : PS (R ||| 2 ^ pc) (PU ++ [pc]) := by
  refine ⟨?_, ?_, ?_⟩
  · intro q
    rw [Nat.testBit_or, Nat.testBit_two_pow, Bool.or_eq_true, List.mem_append, List.mem_singleton, h.bit, decide_eq_true_eq]
    constructor
    · rintro (h | h)
      · exact .inl h
      · exact .inr h.symm
    · rintro (h | h)
      · exact .inl h
      · exact .inr h.symm
  · rw [List.nodup_append]
    refine ⟨h.nd, by simp, ?_⟩
    intro a ha b hb
    simp at hb
    subst hb
    intro hab
    subst hab
    have := (h.bit a).2 ha
    rw [this] at hn
    cases hn
  · intro q hq
    rcases List.mem_append.1 hq with hq | hq
    · exact h.lt q hq
    · simp at hq; omega

/-- The work list: the waiting ones from the bottom. -/
def SKV (g : Nat → Value) (ST : List Nat) : Prop := ∀ i pc, ST[i]? = some pc → g i = i64c pc

/-- What push answers. -/
def pushW (R pc : Nat) (PU ST : List Nat) : Nat × List Nat × List Nat := if R.testBit pc then (R, PU, ST) else (R ||| 2 ^ pc, PU ++ [pc], ST ++ [pc])

theorem push81 {w : World} {D : DF} {kv : Value} {N : DN} {g : Nat → Value} {R pc : Nat} {PU ST : List Nat} (hB : Blk w.heap D.db (dcl D kv N) 112) (hK : FB w.heap D.sk 64 g 3) (hne : D.db < D.sk) (hP : PS R PU) (hS : SKV g ST) (hsub : ∀ x ∈ ST, x ∈ PU) (hnd : ST.Nodup) (hpc : pc < 64) :
    Ret Tryz.prog 81 [ptr D.db, u64c R, i64c ST.length, i64c pc] w (fun v w' => v = .tuple #[u64c (pushW R pc PU ST).1, i64c (pushW R pc PU ST).2.2.length] ∧ Blk w'.heap D.db (dcl D kv N) 112 ∧ (∃ g', FB w'.heap D.sk 64 g' 3 ∧ SKV g' (pushW R pc PU ST).2.2) ∧ Fram (one D.sk) w w') := by
  have hF : Fram (one D.sk) w w := Fram.refl _ _
  have hR := hP.lt64
  have h2 : (2 : Nat) ^ pc < 2 ^ 64 := Nat.pow_lt_pow_right (by omega) hpc
  have hms : one D.sk D.sk := rfl
  cases hb : R.testBit pc with
  | true =>
    have e1 : pushW R pc PU ST = (R, PU, ST) := by unfold pushW; rw [hb]; rfl
    rw [e1]
    have hne0 : R &&& 2 ^ pc ≠ 0 := fun h => by rw [tb_pow.1 h] at hb; cases hb
    refine ret_of Tryz.func81 rfl Tryz.ntmps81 rfl ?_
    refine c_seq (fun K1 hK1 => ?_)
    refine c_reg ?_ -- region 0 sets.go:11
    refine wl (ro_assign rfl) ?_
    refine wl (ro_assign rfl) ?_
    refine wl_nil (x_then (hK1 _ _ ?_))
    clear hK1 K1
    refine forget [(0, _), (1, _), (2, _), (3, _)] ⟨rfl, rfl, rfl, rfl, trivial⟩ (fun e => ?_)
    refine c_seq (fun K2 hK2 => ?_)
    refine c_reg ?_ -- region 1 sets.go:12
    refine wl (ro_move rfl) ?_
    refine wl_call rfl en_80 (bit80 hpc) ?_
    rintro _ _ ⟨rfl, rfl⟩
    refine wl (ro_assign rfl) ?_
    refine wl_nil (x_then (hK2 _ _ ?_))
    clear hK2 K2
    refine c_seq (fun K3 hK3 => ?_)
    refine c_seq (fun K4 hK4 => ?_)
    refine c_reg ?_ -- region 2 sets.go:13
    refine wl (ro_move rfl) ?_
    refine wl (ro_move rfl) ?_
    refine wl (ro_andU (a := R) (b := 2 ^ pc) rfl rfl hR h2) ?_
    refine wl (ro_cmp (r := true) rfl rfl (congrArg some ((bnec (R &&& 2 ^ pc) 0).trans (decide_eq_true hne0)))) ?_
    refine wl_nil (x_then (hK4 _ _ ?_))
    clear hK4 K4
    refine wc_condT rfl ?_
    refine c_seq (fun K5 hK5 => ?_)
    refine c_reg ?_ -- region 3 sets.go:14
    refine wl (ro_move rfl) ?_
    refine wl (ro_move rfl) ?_
    refine wl (ro_assign rfl) ?_
    refine wl (ro_assign rfl) ?_
    refine wl_nil (x_then (hK5 _ _ ?_))
    clear hK5 K5
    refine c_ret (x_thenR ?_)
    refine bp_ret Tryz.results81 rfl ?_
    exact ⟨rfl, hB, ⟨g, hK, hS⟩, hF⟩
  | false =>
    have e1 : pushW R pc PU ST = (R ||| 2 ^ pc, PU ++ [pc], ST ++ [pc]) := by unfold pushW; rw [hb]; rfl
    rw [e1]
    have hne0 : R &&& 2 ^ pc = 0 := tb_pow.2 hb
    have hlen : ST.length < 64 := by
      have hpu : pc ∉ PU := fun h => by rw [(hP.bit pc).2 h] at hb; cases hb
      have : (ST ++ [pc]).length ≤ 64 := pigeon 64 _ (by
        rw [List.nodup_append]
        refine ⟨hnd, by simp, ?_⟩
        intro a ha b hb'
        simp at hb'
        subst hb'
        intro hab
        subst hab
        exact hpu (hsub a ha)) (fun x hx => by
        rcases List.mem_append.1 hx with hx | hx
        · exact hP.lt x (hsub x hx)
        · simp at hx; omega)
      simp at this
      omega
    refine ret_of Tryz.func81 rfl Tryz.ntmps81 rfl ?_
    refine c_seq (fun K1 hK1 => ?_)
    refine c_reg ?_ -- region 0 sets.go:11
    refine wl (ro_assign rfl) ?_
    refine wl (ro_assign rfl) ?_
    refine wl_nil (x_then (hK1 _ _ ?_))
    clear hK1 K1
    refine forget [(0, _), (1, _), (2, _), (3, _)] ⟨rfl, rfl, rfl, rfl, trivial⟩ (fun e => ?_)
    refine c_seq (fun K2 hK2 => ?_)
    refine c_reg ?_ -- region 1 sets.go:12
    refine wl (ro_move rfl) ?_
    refine wl_call rfl en_80 (bit80 hpc) ?_
    rintro _ _ ⟨rfl, rfl⟩
    refine wl (ro_assign rfl) ?_
    refine wl_nil (x_then (hK2 _ _ ?_))
    clear hK2 K2
    refine c_seq (fun K3 hK3 => ?_)
    refine c_seq (fun K4 hK4 => ?_)
    refine c_reg ?_ -- region 2 sets.go:13
    refine wl (ro_move rfl) ?_
    refine wl (ro_move rfl) ?_
    refine wl (ro_andU (a := R) (b := 2 ^ pc) rfl rfl hR h2) ?_
    refine wl (ro_cmp (r := false) rfl rfl (congrArg some ((bnec (R &&& 2 ^ pc) 0).trans (decide_eq_false (by rw [hne0]; simp))))) ?_
    refine wl_nil (x_then (hK4 _ _ ?_))
    clear hK4 K4
    refine wc_condF rfl ?_
    refine c_skip (x_then (hK3 _ _ ?_))
    clear hK3 K3
    refine forget [(0, _), (1, _), (2, _), (3, _), (10, _)] ⟨rfl, rfl, rfl, rfl, rfl, trivial⟩ (fun e => ?_)
    refine c_seq (fun K5 hK5 => ?_)
    refine c_reg ?_ -- region 4 sets.go:16
    refine wl (ro_move rfl) ?_
    refine wl (ro_nilCheck rfl) ?_
    refine wl (ro_fieldAddr (k := 12) rfl fo_112_7) ?_
    refine wl (ro_loadB rfl sc_97 (hB) (rfl)) ?_
    refine wl (ro_move rfl) ?_
    refine wl (ro_move rfl) ?_
    refine wl (ro_indexAddr (et := 3) (k := 1) rfl rfl se_97 (rfl) (hlen)) ?_
    refine wl_put rfl rfl rfl sz_3 hK ((cel_lt (by omega))) ((cel_put ST.length (by omega))) (fun w1 hK F1 => ?_)
    replace hF := hF.thenDrew.thenO F1 (by first | exact .inr (by omega) | exact .inl rfl | exact .inl (by assumption))
    replace hB := F1.blkO hB (by omega)
    refine wl_nil (x_then (hK5 _ _ ?_))
    clear hK5 K5
    refine forget [(1, _), (2, _), (10, _)] ⟨rfl, rfl, rfl, trivial⟩ (fun e => ?_)
    refine c_seq (fun K6 hK6 => ?_)
    refine c_reg ?_ -- region 5 sets.go:17
    refine wl (ro_move rfl) ?_
    refine wl (ro_move rfl) ?_
    refine wl (ro_orU (a := R) (b := 2 ^ pc) rfl rfl hR h2) ?_
    refine wl (ro_move rfl) ?_
    refine wl (ro_arith rfl rfl rfl (Go.IntWalk.i64_in _ (by omega))) ?_
    refine wl (ro_assign rfl) ?_
    refine wl (ro_assign rfl) ?_
    refine wl_nil (x_then (hK6 _ _ ?_))
    clear hK6 K6
    refine c_ret ?_
    refine bp_ret Tryz.results81 rfl ?_
    refine ⟨by rw [List.length_append]; rfl, hB, ⟨_, hK, ?_⟩, hF⟩
    intro i x hx
    by_cases hi : i < ST.length
    · rw [List.getElem?_append_left hi] at hx
      rw [pt_ne (by omega)]
      exact hS i x hx
    · rw [List.getElem?_append_right (by omega)] at hx
      have hi0 : i = ST.length := by
        have := (List.getElem?_eq_some_iff.1 hx).1
        simp at this
        omega
      subst hi0
      simp at hx
      subst hx
      exact pt_same

end Go.Proofs.Qxb6500567aGreat
