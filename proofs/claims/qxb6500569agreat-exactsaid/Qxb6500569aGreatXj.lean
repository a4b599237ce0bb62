import Derived.Test.Qxb6500569aGreatXn
/- The tower, and both machines beside each other. -/
namespace Go.Proofs.Qxb6500569aGreat
set_option linter.unusedVariables false
set_option linter.unusedSimpArgs false

theorem New6 {w : World} : Ret Tryz.prog 6 [] w (fun r w' => ∃ (L : HL) (pb sb : Nat) (F : Nat → Prop), r = .agg [ptr L.h, ptr pb, ptr sb].toArray ∧ RAll w'.heap sb rs0 F ∧ (∀ b, F b → w.heap.size ≤ b) ∧ Fram none' w w') := by
  refine ret_of Tryz.func6 rfl Tryz.ntmps6 rfl ?_
  refine c_seq (fun K1 hK1 => ?_)
  refine c_reg ?_ -- region 0 tower.go:18
  refine wle (eo_alloc ze_28) ?_
  have hR := Blk.new w [.pointer none, .pointer none, .pointer none] 28
  have F1 : Fram none' w (w.alloc (.cells [.pointer none, .pointer none, .pointer none].toArray 28)) := Fram.alloc none' w _
  refine gen2 (A := fun w1 => Blk w1.heap w.heap.size [.pointer none, .pointer none, .pointer none] 28) (B := fun w1 => Fram none' w w1) (C := fun w1 => WL _ _ _ _ _ w1) hR F1 ?_
  clear hR F1
  intro w1 hR F1
  refine wl_nil (x_then (hK1 _ _ ?_))
  clear hK1 K1
  refine forget [(0, _)] ⟨rfl, trivial⟩ (fun e => ?_)
  refine c_seq (fun K2 hK2 => ?_)
  refine c_reg ?_ -- region 1 tower.go:19
  refine wl_call rfl en_14 (New14) ?_
  rintro _ w2 ⟨L, rfl, hh, hfL, F2⟩
  have hR2 := hR.fram F2 (fun h => h)
  have F02 := F1.trans F2
  refine wl (ro_assign rfl) ?_
  refine wl_nil (x_then (hK2 _ _ ?_))
  clear hK2 K2
  refine forget [(0, _), (1, _)] ⟨rfl, rfl, trivial⟩ (fun e => ?_)
  refine c_seq (fun K3 hK3 => ?_)
  refine c_reg ?_ -- region 2 tower.go:20
  refine wl_call rfl en_15 (New15) ?_
  rintro _ w3 ⟨pb, rfl, hp, F3⟩
  have hR3 := hR2.fram F3 (fun h => h)
  have F03 := F02.trans F3
  have hh3 := hh.fram F3 (fun _ _ h => h)
  refine wl (ro_assign rfl) ?_
  refine wl_nil (x_then (hK3 _ _ ?_))
  clear hK3 K3
  refine forget [(0, _), (1, _), (2, _)] ⟨rfl, rfl, rfl, trivial⟩ (fun e => ?_)
  refine c_seq (fun K4 hK4 => ?_)
  refine c_reg ?_ -- region 3 tower.go:21
  refine wl (ro_move rfl) ?_
  refine wl (ro_move rfl) ?_
  refine wl_call rfl en_16 (New16 hh3 hp (fun b hb h ↦ by have := hh.lt h; omega) (fun b hb ↦ hb.2)) ?_
  rintro _ w4 ⟨sb, F, rfl, hA, hFb, F4⟩
  have hR4 := hR3.fram F4 (fun h => h)
  have F04 := F03.trans F4
  refine wl (ro_assign rfl) ?_
  refine wl_nil (x_then (hK4 _ _ ?_))
  clear hK4 K4
  refine forget [(0, _), (1, _), (2, _), (3, _)] ⟨rfl, rfl, rfl, rfl, trivial⟩ (fun e => ?_)
  refine c_seq (fun K5 hK5 => ?_)
  refine c_reg ?_ -- region 4 tower.go:22
  refine wl (ro_move rfl) ?_
  refine wl (ro_move rfl) ?_
  refine wl (ro_move rfl) ?_
  refine wl (ro_build rfl bld_28_0_1_2) ?_
  refine wls (so_storeAggB rfl rfl (by simp [Value.oneCell', i32c, u8c, i64c, i8c]) sz_28 rfl (hR4) (by simp)) ?_
  have FS : Fram (fun b => b = w.heap.size) w4 (w4.setRow w.heap.size [ptr L.h, ptr pb, ptr sb].toArray) := Fram.set w4 w.heap.size _ (.inl rfl)
  have hR5 := hR4.set [ptr L.h, ptr pb, ptr sb]
  have h1 := F1.size
  have h2 := F02.size
  have h3 := F03.size
  have hrl := hR.lt
  have hge : ∀ b, F b → w1.heap.size ≤ b := by
    intro b hb
    rcases hFb b hb with h | h | h
    · exact hfL b h
    · have := F2.size; omega
    · have := F2.size; have := F3.size; omega
  have hA5 := hA.fram FS (fun b hb he => by have := hge b hb; omega)
  have F05 : Fram none' w _ := F04.trans' FS (fun b hb he => absurd he (by omega))
  refine wl_nil (x_then (hK5 _ _ ?_))
  clear hK5 K5
  refine c_ret ?_
  exact bodyPost_ret (results_cA Tryz.results6 rfl ag_28 hR5 rfl) rfl ⟨_, rfl, L, pb, sb, F, rfl, hA5, fun b hb => by have := hge b hb; omega, F05⟩

theorem ro_addW {P : Program} {n : Nat} {e : Nat → Option Value} {w : World} {t t' : TypeId} {x y : Operand} {k : IntKind} {a b : Int} (hx : evO n e x = some (.int k a)) (hy : evO n e y = some (.int k b)) : RO P n e w (.binOp .add t x y t') (.int k (k.wrap (a + b))) := by
  intro ds dst ty ps af g
  simp [execOp, evO_eval hx, evO_eval hy, eqGuard, binOp, Op.intArith]

theorem ro_indexAddrG {P : Program} {n : Nat} {e : Nat → Option Value} {w : World} {t et i len cap : Nat} {ad : Addr} {q : IntKind} {idx : Int} {x y : Operand} (hx : evO n e x = some (.slice (some ad) len cap)) (hy : evO n e y = some (.int q idx)) (ht : selB P t et 1 = true)
    (hi : idx = (i : Int)) (hlt : i < len) : RO P n e w (.indexAddr t x y) (.pointer (some (ad.add i))) := by
  intro ds dst ty ps af g
  obtain ⟨h1, h2⟩ := selB_spec ht
  subst hi
  simp [execOp, evO_eval hx, evO_eval hy, Instr.indexAt, run_underlying h1, asIntOf, run_sizeOf h2, hlt]

/-- The texts that were handed in. -/
def TxV (w : World) (v : Value) (ts : List (List UInt8)) : Prop := (v = .slice none 0 0 ∧ ts = []) ∨ ∃ (ad : Addr) (cap : Nat), v = .slice (some ad) ts.length cap ∧ ∀ i t, ts[i]? = some t → w.cell? (ad.add i) = some (S t)

theorem add_block (ad : Addr) (i : Nat) : (ad.add i).block = ad.block := by
  unfold Addr.add; split <;> rfl

theorem cell_lt {w : World} {ad : Addr} {v : Value} (h : w.cell? ad = some v) : ad.block < w.heap.size := by
  unfold World.cell? at h
  cases hx : w.heap[ad.block]? with
  | none => rw [hx] at h; cases h
  | some o => exact (Array.getElem?_eq_some_iff.1 hx).1

theorem cell_fram {w w' : World} {ad : Addr} {v : Value} (h : w.cell? ad = some v) (hf : Fram none' w w') : w'.cell? ad = some v := by
  have := hf.block ad.block (cell_lt h) (fun h => h)
  unfold World.cell? at h ⊢
  rw [this]; exact h

theorem TxV.fram {w w' : World} {v : Value} {ts : List (List UInt8)} (h : TxV w v ts) (hf : Fram none' w w') : TxV w' v ts := by
  rcases h with h | ⟨ad, cap, h1, h2⟩
  · exact .inl h
  · exact .inr ⟨ad, cap, h1, fun i t hi => cell_fram (h2 i t hi) hf⟩

theorem TxV.form {w : World} {v : Value} {ts : List (List UInt8)} (h : TxV w v ts) : ∃ a cap, v = .slice a ts.length cap ∧ ∀ i t, ts[i]? = some t → ∃ ad, a = some ad ∧ w.cell? (ad.add i) = some (S t) := by
  rcases h with ⟨h1, h2⟩ | ⟨ad, cap, h1, h2⟩
  · subst h2; exact ⟨none, 0, h1, by intro i t h; simp at h⟩
  · exact ⟨some ad, cap, h1, fun i t hi => ⟨ad, rfl, h2 i t hi⟩⟩

theorem few5 {w : World} {v : Value} {ts : List (List UInt8)} (h : TxV w v ts) (hb : ts.length ≤ 9223372036854775807) : Ret Tryz.prog 5 [v] w (fun r w' => (∃ b, r = .bool b) ∧ w' = w) := by
  obtain ⟨a, cap, rfl, hc⟩ := h.form
  refine ret_of Tryz.func5 rfl Tryz.ntmps5 rfl ?_
  refine c_seq (fun K1 hK1 => ?_)
  refine c_reg ?_ -- region 0 law.go:153
  refine wl (ro_assign rfl) ?_
  refine wl_nil (x_then (hK1 _ _ ?_))
  clear hK1 K1
  refine c_seq (fun K2 hK2 => ?_)
  refine c_seq (fun K3 hK3 => ?_)
  refine c_reg ?_ -- region 1 law.go:154
  refine wl (ro_move rfl) ?_
  refine wl (ro_lenL rfl se_22) ?_
  refine wl (ro_cmp rfl rfl rfl) ?_
  refine wl_nil (x_then (hK3 _ _ ?_))
  clear hK3 K3
  refine wc_cond rfl (fun hc7 => ?_) (fun hc7 => ?_)
  · try simp only [decide_eq_true_eq, decide_eq_false_iff_not, Bool.not_eq_true', Bool.not_eq_false', Bool.not_eq_eq_eq_not, Bool.not_true, Bool.not_false, beq_iff_eq, bne_iff_ne, ne_eq, beq_eq_false_iff_ne, bne_eq_false_iff_eq, gt_iff_lt, ge_iff_le, Int.not_lt, Int.not_le] at hc7
    skip
    refine c_seq (fun K4 hK4 => ?_)
    refine c_reg ?_ -- region 2 law.go:155
    refine wl (ro_assign rfl) ?_
    refine wl_nil (x_then (hK4 _ _ ?_))
    clear hK4 K4
    refine c_ret (x_thenR ?_)
    refine bp_ret Tryz.results5 rfl ?_
    exact ⟨⟨_, rfl⟩, rfl⟩
  · try simp only [decide_eq_true_eq, decide_eq_false_iff_not, Bool.not_eq_true', Bool.not_eq_false', Bool.not_eq_eq_eq_not, Bool.not_true, Bool.not_false, beq_iff_eq, bne_iff_ne, ne_eq, beq_eq_false_iff_ne, bne_eq_false_iff_eq, gt_iff_lt, ge_iff_le, Int.not_lt, Int.not_le] at hc7
    refine c_skip (x_then (hK2 _ _ ?_))
    clear hK2 K2
    refine forget [(0, _)] ⟨rfl, trivial⟩ (fun e => ?_)
    refine c_seq (fun K5 hK5 => ?_)
    refine c_reg ?_ -- region 3 law.go:157
    refine wl (ro_move rfl) ?_
    refine wl (ro_lenL rfl se_22) ?_
    refine wl (ro_assign rfl) ?_
    refine wl_nil (x_then (hK5 _ _ ?_))
    clear hK5 K5
    refine c_seq (fun K6 hK6 => ?_)
    refine c_seq (fun K7 hK7 => ?_)
    refine c_reg ?_ -- region 4 law.go:158
    refine wl (ro_assign rfl) ?_
    refine wl_nil (x_then (hK7 _ _ ?_))
    clear hK7 K7
    refine c_block ?_
    -- loop@r5: live slots [0, 3, 4]
    refine c_loopG (fun m a' w' => ∃ (i : Nat) (v : Int), m = ts.length - i ∧ i ≤ ts.length ∧ w' = w ∧ ∃ e, a' = Fr 25 (upds e [(0, .slice a ts.length cap), (3, .int .i64 v), (4, i64c i)]) []) ts.length ⟨0, _, by omega, by omega, rfl, kp _ ⟨rfl, rfl, rfl, trivial⟩⟩ ?_
    rintro m a' w1 ⟨i, v, rfl, hi, rfl, e, rfl⟩
    refine c_seq (fun K8 hK8 => ?_)
    refine c_seq (fun K9 hK9 => ?_)
    refine c_reg ?_ -- region 5 law.go:158
    refine wl (ro_move rfl) ?_
    refine wl (ro_move rfl) ?_
    refine wl (ro_lenL rfl se_22) ?_
    refine wl (ro_cmp rfl rfl rfl) ?_
    refine wl_nil (x_then (hK9 _ _ ?_))
    clear hK9 K9
    refine wc_cond rfl (fun hc13 => ?_) (fun hc13 => ?_)
    · try simp only [decide_eq_true_eq, decide_eq_false_iff_not, Bool.not_eq_true', Bool.not_eq_false', Bool.not_eq_eq_eq_not, Bool.not_true, Bool.not_false, beq_iff_eq, bne_iff_ne, ne_eq, beq_eq_false_iff_ne, bne_eq_false_iff_eq, gt_iff_lt, ge_iff_le, Int.not_lt, Int.not_le] at hc13
      obtain ⟨t, ht⟩ : ∃ t, ts[i]? = some t := ⟨_, List.getElem?_eq_getElem (by omega)⟩
      obtain ⟨ad, rfl, hcl⟩ := hc i t ht
      refine c_skip (x_then (hK8 _ _ ?_))
      clear hK8 K8
      refine forget [(0, _), (3, _), (4, _)] ⟨rfl, rfl, rfl, trivial⟩ (fun e => ?_)
      refine c_seq (fun K10 hK10 => ?_)
      refine c_block ?_
      refine c_seq (fun K11 hK11 => ?_)
      refine c_reg ?_ -- region 7 law.go:159
      refine wl (ro_move rfl) ?_
      refine wl (ro_move rfl) ?_
      refine wl (ro_move rfl) ?_
      refine wl (ro_indexAddrG (i := i) rfl rfl se_22 rfl (by omega)) ?_
      refine wl (ro_load rfl sc_9 hcl) ?_
      refine wl (ro_lenS rfl st_9) ?_
      refine wl (ro_addW rfl rfl) ?_
      refine wl (ro_assign rfl) ?_
      refine wl_nil (x_then (hK11 _ _ ?_))
      clear hK11 K11
      refine forget [(0, _), (3, _), (4, _)] ⟨rfl, rfl, rfl, trivial⟩ (fun e => ?_)
      refine c_seq (fun K12 hK12 => ?_)
      refine c_reg ?_ -- region 8 law.go:160
      refine wl (ro_move rfl) ?_
      refine wl (ro_cmp rfl rfl rfl) ?_
      refine wl_nil (x_then (hK12 _ _ ?_))
      clear hK12 K12
      refine wc_cond rfl (fun hc24 => ?_) (fun hc24 => ?_)
      · try simp only [decide_eq_true_eq, decide_eq_false_iff_not, Bool.not_eq_true', Bool.not_eq_false', Bool.not_eq_eq_eq_not, Bool.not_true, Bool.not_false, beq_iff_eq, bne_iff_ne, ne_eq, beq_eq_false_iff_ne, bne_eq_false_iff_eq, gt_iff_lt, ge_iff_le, Int.not_lt, Int.not_le] at hc24
        refine c_seq (fun K13 hK13 => ?_)
        refine c_reg ?_ -- region 9 law.go:161
        refine wl (ro_assign rfl) ?_
        refine wl_nil (x_then (hK13 _ _ ?_))
        clear hK13 K13
        refine c_ret (x_blkR (x_thenR (x_thenR (x_blkR (x_thenR ?_)))))
        refine bp_ret Tryz.results5 rfl ?_
        exact ⟨⟨_, rfl⟩, rfl⟩
      · try simp only [decide_eq_true_eq, decide_eq_false_iff_not, Bool.not_eq_true', Bool.not_eq_false', Bool.not_eq_eq_eq_not, Bool.not_true, Bool.not_false, beq_iff_eq, bne_iff_ne, ne_eq, beq_eq_false_iff_ne, bne_eq_false_iff_eq, gt_iff_lt, ge_iff_le, Int.not_lt, Int.not_le] at hc24
        refine c_skip (x_blk (x_then (hK10 _ _ ?_)))
        clear hK10 K10
        refine c_reg ?_ -- region 6 law.go:158
        refine wl (ro_move rfl) ?_
        refine wl (ro_arith rfl rfl rfl (Go.IntWalk.i64_in _ (by omega))) ?_
        refine wl (ro_assign rfl) ?_
        refine wl_nil (x_then ?_)
        exact ⟨ts.length - (i + 1), by omega, i + 1, _, rfl, by omega, rfl, kp _ ⟨rfl, rfl, rfl, trivial⟩⟩
    · try simp only [decide_eq_true_eq, decide_eq_false_iff_not, Bool.not_eq_true', Bool.not_eq_false', Bool.not_eq_eq_eq_not, Bool.not_true, Bool.not_false, beq_iff_eq, bne_iff_ne, ne_eq, beq_eq_false_iff_ne, bne_eq_false_iff_eq, gt_iff_lt, ge_iff_le, Int.not_lt, Int.not_le] at hc13
      refine c_exit (x_thenX (x_thenX (x_blkX (x_then (hK6 _ _ ?_)))))
      clear hK8 K8 hK6 K6
      refine forget [] trivial (fun e => ?_)
      refine c_seq (fun K14 hK14 => ?_)
      refine c_reg ?_ -- region 10 law.go:164
      refine wl (ro_assign rfl) ?_
      refine wl_nil (x_then (hK14 _ _ ?_))
      clear hK14 K14
      refine c_ret ?_
      refine bp_ret Tryz.results5 rfl ?_
      exact ⟨⟨_, rfl⟩, rfl⟩

/-- Both machines in one memory. -/
structure Jn (w : World) (sb mb : Nat) (s : RSt) (m : MSt) (Fr Fm : Nat → Prop) : Prop where
  r : RAll w.heap sb s Fr
  m : MAll w.heap mb m Fm
  d : ∀ b, Fr b → ¬ Fm b

theorem Jn.stepR {w w1 : World} {sb mb : Nat} {s s' : RSt} {m : MSt} {Fr Fm : Nat → Prop} (J : Jn w sb mb s m Fr Fm) (h : RPostF Fr sb s' w w1) : ∃ Fr', Jn w1 sb mb s' m Fr' Fm ∧ (∀ b, Fr' b → Fr b ∨ w.heap.size ≤ b) ∧ Fram Fr w w1 := by
  obtain ⟨Fr', h1, h2, h3⟩ := h
  refine ⟨Fr', ⟨h1, J.m.fram h3 (fun b hb hx => J.d b hx hb), ?_⟩, h2, h3⟩
  intro b hb hm
  rcases h2 b hb with h | h
  · exact J.d b h hm
  · have := J.m.lt hm; omega

theorem Jn.stepM {w w1 : World} {sb mb : Nat} {s : RSt} {m m' : MSt} {Fr Fm : Nat → Prop} (J : Jn w sb mb s m Fr Fm) (h : MPostF Fm mb m' w w1) : ∃ Fm', Jn w1 sb mb s m' Fr Fm' ∧ (∀ b, Fm' b → Fm b ∨ w.heap.size ≤ b) ∧ Fram Fm w w1 := by
  obtain ⟨Fm', h1, h2, h3⟩ := h
  refine ⟨Fm', ⟨J.r.fram h3 (fun b hb hx => J.d b hb hx), h1, ?_⟩, h2, h3⟩
  intro b hb hm
  rcases h2 b hm with h | h
  · exact J.d b hb h
  · have := J.r.lt hb; omega

theorem Jn.fram {G : Nat → Prop} {w w1 : World} {sb mb : Nat} {s : RSt} {m : MSt} {Fr Fm : Nat → Prop} (J : Jn w sb mb s m Fr Fm) (h : Fram G w w1) (hn : ∀ b, Fr b ∨ Fm b → ¬ G b) : Jn w1 sb mb s m Fr Fm :=
  ⟨J.r.fram h (fun b hb => hn b (.inl hb)), J.m.fram h (fun b hb => hn b (.inr hb)), J.d⟩

/-- They stand alike; n answers are to come. -/
structure Agr (s : RSt) (m : MSt) (n : Nat) : Prop where
  cls : s.cls = m.cls
  opn : s.opn = m.opn
  q : s.q = m.q
  fuel : s.fuel = m.fuel
  given : s.given = m.given
  ql : s.q.length ≤ 40
  fl : s.fuel ≤ 24
  gl : s.given ≤ 100
  cl : s.opn = false → s.frs = [] ∧ s.chs = [] ∧ s.proof = [] ∧ s.cont = -1
  op : s.opn = true → ∃ L E, Strm s L E ∧ m.st.list.drop s.given = L ++ [(E.1, E.2.1, E.2.2, [])] ∧ E.1 ≠ 0 ∧ E.2.2 ≤ 1000000 ∧ s.given + L.length ≤ 50 ∧ L.length = n

/-- One tower and its model, in the blocks F. -/
def JF (w : World) (sb mb n : Nat) (F : Nat → Prop) : Prop := ∃ s m Fr Fm, Jn w sb mb s m Fr Fm ∧ (∀ b, F b ↔ (Fr b ∨ Fm b)) ∧ Agr s m n

theorem JF.lt {w : World} {sb mb n : Nat} {F : Nat → Prop} (h : JF w sb mb n F) {b : Nat} (hb : F b) : b < w.heap.size := by
  obtain ⟨s, m, Fr, Fm, J, hF, _⟩ := h
  rcases (hF b).1 hb with h | h
  · exact J.r.lt h
  · exact J.m.lt h

theorem JF.fram {G : Nat → Prop} {w w1 : World} {sb mb n : Nat} {F : Nat → Prop} (h : JF w sb mb n F) (hf : Fram G w w1) (hn : ∀ b, F b → ¬ G b) : JF w1 sb mb n F := by
  obtain ⟨s, m, Fr, Fm, J, hF, A⟩ := h
  exact ⟨s, m, Fr, Fm, J.fram hf (fun b hb => hn b ((hF b).2 hb)), hF, A⟩

def JPost (F : Nat → Prop) (sb mb n : Nat) (w w' : World) : Prop := ∃ F', JF w' sb mb n F' ∧ (∀ b, F' b → F b ∨ w.heap.size ≤ b) ∧ Fram F w w'

theorem Jn.fin {w w1 w2 : World} {sb mb n : Nat} {s' : RSt} {m' : MSt} {Fr Fm Fr' Fm' F : Nat → Prop} (J : Jn w2 sb mb s' m' Fr' Fm') (A : Agr s' m' n) (hF : ∀ b, F b ↔ (Fr b ∨ Fm b)) (h1 : ∀ b, Fr' b → Fr b ∨ w.heap.size ≤ b) (f1 : Fram Fr w w1) (h2 : ∀ b, Fm' b → Fm b ∨ w1.heap.size ≤ b) (f2 : Fram Fm w1 w2) : JPost F sb mb n w w2 := by
  have hs := f1.size
  refine ⟨fun b => Fr' b ∨ Fm' b, ⟨s', m', Fr', Fm', J, fun b => Iff.rfl, A⟩, ?_, (f1.mono (fun b _ h => (hF b).2 (.inl h))).trans (f2.mono (fun b _ h => (hF b).2 (.inr h)))⟩
  rintro b (h | h)
  · rcases h1 b h with h | h
    · exact .inl ((hF b).2 (.inl h))
    · exact .inr h
  · rcases h2 b h with h | h
    · exact .inl ((hF b).2 (.inr h))
    · exact .inr (by omega)

theorem addV_form (cls : List Cl2) (text : List UInt8) : ∃ (x : Int) (y : Nat), addV cls text = .tuple #[.int .i64 x, i64c y] := by
  unfold addV
  split
  · exact ⟨_, _, rfl⟩
  · split
    · exact ⟨_, _, rfl⟩
    · split <;> exact ⟨_, _, rfl⟩

theorem rAddV_form (s : RSt) (text : List UInt8) : ∃ (x : Int) (y : Nat), rAddV s text = .tuple #[.int .i64 x, i64c y] := by
  unfold rAddV
  split
  · exact ⟨_, _, rfl⟩
  · split
    · exact ⟨_, _, rfl⟩
    · exact addV_form _ _

theorem added8 {w : World} {sb mb n : Nat} {F : Nat → Prop} (J : JF w sb mb n F) (text : List UInt8) : Ret Tryz.prog 8 [ptr sb, ptr mb, S text] w (fun r w' => r = .bool true ∧ JPost F sb mb n w w') := by
  obtain ⟨s, m, Fr, Fm, J, hF, A⟩ := J
  obtain ⟨x, y, hv⟩ := rAddV_form s text
  have hv2 : mAddV m text = .tuple #[.int .i64 x, i64c y] := by
    rw [← hv]; unfold mAddV rAddV; rw [A.opn, A.cls]
  have h1 := Add18 J.r text
  rw [hv] at h1
  refine ret_of Tryz.func8 rfl Tryz.ntmps8 rfl ?_
  refine c_seq (fun K1 hK1 => ?_)
  refine c_reg ?_ -- region 0 law.go:43
  refine wl (ro_assign rfl) ?_
  refine wl_nil (x_then (hK1 _ _ ?_))
  clear hK1 K1
  refine forget [(0, _), (1, _), (2, _)] ⟨rfl, rfl, rfl, trivial⟩ (fun e => ?_)
  refine c_seq (fun K2 hK2 => ?_)
  refine c_reg ?_ -- region 1 law.go:44
  refine wl (ro_move rfl) ?_
  refine wl (ro_move rfl) ?_
  refine wl_call rfl en_18 (h1) ?_
  rintro _ w1 ⟨rfl, P1⟩
  obtain ⟨Fr1, J1, u1, f1⟩ := J.stepR P1
  have h2 := Add19 J1.m text
  rw [hv2] at h2
  refine wl (ro_move rfl) ?_
  refine wl (ro_extract rfl rfl) ?_
  refine wl (ro_extract rfl rfl) ?_
  refine wl (ro_assign rfl) ?_
  refine wl (ro_assign rfl) ?_
  refine wl_nil (x_then (hK2 _ _ ?_))
  clear hK2 K2
  refine forget [(1, _), (2, _), (7, _), (8, _)] ⟨rfl, rfl, rfl, rfl, trivial⟩ (fun e => ?_)
  refine c_seq (fun K3 hK3 => ?_)
  refine c_reg ?_ -- region 2 law.go:45
  refine wl (ro_move rfl) ?_
  refine wl (ro_move rfl) ?_
  refine wl_call rfl en_19 (h2) ?_
  rintro _ w2 ⟨rfl, P2⟩
  obtain ⟨Fm1, J2, u2, f2⟩ := J1.stepM P2
  refine wl (ro_move rfl) ?_
  refine wl (ro_extract rfl rfl) ?_
  refine wl (ro_extract rfl rfl) ?_
  refine wl (ro_assign rfl) ?_
  refine wl (ro_assign rfl) ?_
  refine wl_nil (x_then (hK3 _ _ ?_))
  clear hK3 K3
  refine forget [(7, _), (8, _), (9, _), (10, _)] ⟨rfl, rfl, rfl, rfl, trivial⟩ (fun e => ?_)
  refine c_seq (fun K4 hK4 => ?_)
  refine c_reg ?_ -- region 3 law.go:46
  refine wl (ro_move rfl) ?_
  refine wl (ro_move rfl) ?_
  refine wl (ro_cmp (r := true) rfl rfl (by simp)) ?_
  refine wl (ro_move rfl) ?_
  refine wlg_yes rfl (ro_move rfl) ?_
  refine wlg_yes rfl (ro_move rfl) ?_
  refine wlg_yes rfl (ro_cmp (r := true) rfl rfl (by simp)) ?_
  refine wl (ro_pick rfl rfl rfl) ?_
  refine wl (ro_assign rfl) ?_
  refine wl_nil (x_then (hK4 _ _ ?_))
  clear hK4 K4
  refine c_ret ?_
  refine bp_ret Tryz.results8 rfl ?_
  refine ⟨rfl, J2.fin ?_ hF u1 f1 u2 f2⟩
  unfold rAddS mAddS
  by_cases hl : 40 < text.length
  · rw [if_pos hl, if_pos hl]; exact A
  · rw [if_neg hl, if_neg hl, ← A.opn]
    cases ho : s.opn with
    | true => exact A
    | false =>
      simp only [Bool.false_eq_true, if_false]
      exact ⟨by simp only; rw [A.cls], rfl, A.q, A.fuel, A.given, A.ql, A.fl, A.gl, fun _ => A.cl ho, fun h => by cases h⟩

theorem shown10 {w : World} {sb mb n : Nat} {F : Nat → Prop} (J : JF w sb mb n F) : Ret Tryz.prog 10 [ptr sb, ptr mb] w (fun r w' => r = .bool true ∧ JPost F sb mb n w w') := by
  have J0 := J
  obtain ⟨s, m, Fr, Fm, J, hF, A⟩ := J
  have hv : mShow m = rShow s := by unfold mShow rShow; rw [A.opn, A.cls, A.q, A.fuel, A.given]
  have hgl := A.gl
  refine ret_of Tryz.func10 rfl Tryz.ntmps10 rfl ?_
  refine c_seq (fun K1 hK1 => ?_)
  refine c_reg ?_ -- region 0 law.go:62
  refine wl (ro_assign rfl) ?_
  refine wl_nil (x_then (hK1 _ _ ?_))
  clear hK1 K1
  refine forget [(0, _), (1, _)] ⟨rfl, rfl, trivial⟩ (fun e => ?_)
  refine c_seq (fun K2 hK2 => ?_)
  refine c_reg ?_ -- region 1 law.go:63
  refine wl (ro_move rfl) ?_
  refine wl_call rfl en_22 (Show22 J.r A.ql A.fl (by omega)) ?_
  rintro _ w1 ⟨rfl, F1⟩
  have J1 := J.fram F1 (fun _ _ h => h)
  refine wl (ro_assign rfl) ?_
  refine wl_nil (x_then (hK2 _ _ ?_))
  clear hK2 K2
  refine forget [(1, _), (5, _)] ⟨rfl, rfl, trivial⟩ (fun e => ?_)
  refine c_seq (fun K3 hK3 => ?_)
  refine c_reg ?_ -- region 2 law.go:64
  refine wl (ro_move rfl) ?_
  refine wl_call rfl en_23 (Show23 J1.m (A.q ▸ A.ql) (A.fuel ▸ A.fl) (by rw [← A.given]; omega)) ?_
  rintro _ w2 ⟨rfl, F2⟩
  rw [hv]
  refine wl (ro_assign rfl) ?_
  refine wl_nil (x_then (hK3 _ _ ?_))
  clear hK3 K3
  refine forget [(5, _), (6, _)] ⟨rfl, rfl, trivial⟩ (fun e => ?_)
  refine c_seq (fun K4 hK4 => ?_)
  refine c_reg ?_ -- region 3 law.go:65
  refine wl (ro_move rfl) ?_
  refine wl (ro_move rfl) ?_
  refine wl (ro_eqS (r := true) rfl rfl (by simp)) ?_
  refine wl (ro_assign rfl) ?_
  refine wl_nil (x_then (hK4 _ _ ?_))
  clear hK4 K4
  refine c_ret ?_
  refine bp_ret Tryz.results10 rfl ?_
  exact ⟨rfl, F, J0.fram (F1.trans F2) (fun _ _ h => h), fun b h => .inl h, (F1.trans F2).mono (fun _ _ h => h.elim)⟩

theorem ask_end {cls : List Cl2} (ok : POK cls) {fuel : Nat} (hf : fuel ≤ 24) (code : List UInt8) : ∃ L E, (askSt cls code fuel).list = L ++ [(E.1, E.2.1, E.2.2, [])] ∧ E.1 ≠ 0 ∧ E.2.2 ≤ 1000000 ∧ L.length ≤ 50 ∧
    Str cls fuel L E (Yield cls fuel false ⟨nsOf code 0, (kidsS (nsOf code 0) 0 0 0 0).map gf, [], [], 0, 0⟩) := by
  obtain ⟨L, E, h1, h2, h3⟩ := ask_str cls code fuel
  have hb : Bnd fuel 8 1 ⟨0, 0, 0, []⟩ (askR cls code fuel) := dfs_bnd hf ok.n8 _ _ _ _ _ _ _ (by simp) rfl
  have hph := hb.ph
  have hps := hb.ps
  simp only [phi, psi, List.length_nil] at hph hps
  have hl := h1
  unfold askSt at hl
  simp only at hl
  have hxy := List.append_inj' hl rfl
  have e1 := hxy.1
  have e2 := hxy.2
  simp only [List.cons.injEq, Prod.mk.injEq, and_true] at e2
  refine ⟨L, E, h1, h2, by omega, by rw [← e1]; omega, h3⟩

theorem asked9 {w : World} {sb mb n : Nat} {F : Nat → Prop} (J : JF w sb mb n F) (text : List UInt8) (fuel : Int) : Ret Tryz.prog 9 [ptr sb, ptr mb, S text, .int .i64 fuel] w (fun r w' => r = .bool true ∧ ∃ n', JPost F sb mb n' w w') := by
  obtain ⟨s, m, Fr, Fm, J, hF, A⟩ := J
  have okm : POK s.cls := by obtain ⟨_, _, _, _, _, ok, _⟩ := J.r; exact ok
  have hv : (mAsk m text fuel).1 = rAskE s text fuel := by
    unfold mAsk rAskE
    rw [← A.opn]
    split
    · rfl
    · split
      · rfl
      · split
        · rfl
        · cases compS text true <;> rfl
  refine ret_of Tryz.func9 rfl Tryz.ntmps9 rfl ?_
  refine c_seq (fun K1 hK1 => ?_)
  refine c_reg ?_ -- region 0 law.go:49
  refine wl (ro_assign rfl) ?_
  refine wl_nil (x_then (hK1 _ _ ?_))
  clear hK1 K1
  refine forget [(0, _), (1, _), (2, _), (3, _)] ⟨rfl, rfl, rfl, rfl, trivial⟩ (fun e => ?_)
  refine c_seq (fun K2 hK2 => ?_)
  refine c_reg ?_ -- region 1 law.go:50
  refine wl (ro_move rfl) ?_
  refine wl (ro_move rfl) ?_
  refine wl (ro_move rfl) ?_
  refine wl_call rfl en_20 (Ask20 J.r (fun h ↦ ⟨(A.cl h).1, (A.cl h).2.1, (A.cl h).2.2.1⟩) text fuel) ?_
  rintro _ w1 ⟨rfl, P1⟩
  obtain ⟨s1, Fr1, J1, u1, f1, hs1⟩ : ∃ s1 Fr1, Jn w1 sb mb s1 m Fr1 Fm ∧ (∀ b, Fr1 b → Fr b ∨ w.heap.size ≤ b) ∧ Fram Fr w w1 ∧ ((rAskE s text fuel ≠ 0 ∧ s1 = s) ∨ (rAskE s text fuel = 0 ∧ ∃ code, compS text true = some code ∧ s1.cls = s.cls ∧ s1.opn = true ∧ s1.q = text ∧ s1.fuel = fuel.toNat ∧ s1.given = 0 ∧ text.length ≤ 40 ∧ fuel.toNat ≤ 24 ∧ s.opn = false ∧ RunOK s1 ⟨nsOf code 0, (kidsS (nsOf code 0) 0 0 0 0).map gf, [], [], 0, 0⟩)) := by
    rcases P1 with ⟨h1, h2⟩ | ⟨h1, code, s', h2, h3, h4⟩
    · obtain ⟨Fr1, J1, u1, f1⟩ := J.stepR h2
      exact ⟨s, Fr1, J1, u1, f1, .inl ⟨h1, rfl⟩⟩
    · obtain ⟨Fr1, J1, u1, f1⟩ := J.stepR h3
      exact ⟨s', Fr1, J1, u1, f1, .inr ⟨h1, code, h2, h4⟩⟩
  refine wl (ro_assign rfl) ?_
  refine wl_nil (x_then (hK2 _ _ ?_))
  clear hK2 K2
  refine forget [(1, _), (2, _), (3, _), (9, _)] ⟨rfl, rfl, rfl, rfl, trivial⟩ (fun e => ?_)
  refine c_seq (fun K3 hK3 => ?_)
  refine c_reg ?_ -- region 2 law.go:51
  refine wl (ro_move rfl) ?_
  refine wl (ro_move rfl) ?_
  refine wl (ro_move rfl) ?_
  refine wl_call rfl en_21 (Ask21 J1.m text fuel) ?_
  rintro _ w2 ⟨rfl, P2⟩
  obtain ⟨Fm1, J2, u2, f2⟩ := J1.stepM P2
  rw [hv]
  refine wl (ro_assign rfl) ?_
  refine wl_nil (x_then (hK3 _ _ ?_))
  clear hK3 K3
  refine forget [(9, _), (10, _)] ⟨rfl, rfl, trivial⟩ (fun e => ?_)
  refine c_seq (fun K4 hK4 => ?_)
  refine c_reg ?_ -- region 3 law.go:52
  refine wl (ro_move rfl) ?_
  refine wl (ro_move rfl) ?_
  refine wl (ro_cmp (r := true) rfl rfl (by simp)) ?_
  refine wl (ro_assign rfl) ?_
  refine wl_nil (x_then (hK4 _ _ ?_))
  clear hK4 K4
  refine c_ret ?_
  refine bp_ret Tryz.results9 rfl ?_
  refine ⟨rfl, ?_⟩
  rcases hs1 with ⟨h0, rfl⟩ | ⟨h0, code, hc, a1, a2, a3, a4, a5, a6, a7, a8, a9⟩
  · have hm : (mAsk m text fuel).2 = m := by
      rw [← hv] at h0
      revert h0
      unfold mAsk
      split
      · intro _; rfl
      · split
        · intro _; rfl
        · split
          · intro _; rfl
          · split
            · intro _; rfl
            · intro h; exact absurd rfl h
    rw [hm] at J2
    exact ⟨n, J2.fin A hF u1 f1 u2 f2⟩
  · have hfn : ¬ (fuel < 0 ∨ 24 < fuel) := by
      intro h
      unfold rAskE at h0
      rw [if_neg (by omega), a8, if_neg (by decide), if_pos h] at h0
      cases h0
    have hm : (mAsk m text fuel).2 = { m with opn := true, q := text, fuel := fuel.toNat, given := 0, st := askSt m.cls code fuel.toNat } := by
      unfold mAsk
      rw [if_neg (by omega), ← A.opn, a8, if_neg (by decide), if_neg hfn, hc]
    rw [hm] at J2
    obtain ⟨L, E, b1, b2, b3, b4, b5⟩ := ask_end okm a7 code
    refine ⟨L.length, J2.fin ⟨a1.trans A.cls, a2, a3, a4, a5, by rw [a3]; exact a6, by rw [a4]; exact a7, by rw [a5]; omega, fun h => (by rw [a2] at h; cases h), fun _ => ⟨L, E, .inl ⟨a5, _, a9, by rw [a1, a4]; exact b5⟩, ?_, b2, b3, by omega, rfl⟩⟩ hF u1 f1 u2 f2⟩
    simp only
    rw [a5, List.drop_zero, ← A.cls]
    exact b1

theorem next11 {w : World} {sb mb n : Nat} {F : Nat → Prop} (J : JF w sb mb n F) : Ret Tryz.prog 11 [ptr sb, ptr mb] w (fun r w' => ∃ more n', r = .tuple #[.bool true, .bool more] ∧ JPost F sb mb n' w w' ∧ (more = true → n' < n)) := by
  have J0 := J
  obtain ⟨s, m, Fr, Fm, J, hF, A⟩ := J
  have hgl := A.gl
  cases ho : s.opn with
  | false =>
    refine ret_of Tryz.func11 rfl Tryz.ntmps11 rfl ?_
    refine c_seq (fun K1 hK1 => ?_)
    refine c_reg ?_ -- region 0 law.go:56
    refine wl (ro_assign rfl) ?_
    refine wl (ro_assign rfl) ?_
    refine wl_nil (x_then (hK1 _ _ ?_))
    clear hK1 K1
    refine forget [(0, _), (1, _)] ⟨rfl, rfl, trivial⟩ (fun e => ?_)
    refine c_seq (fun K2 hK2 => ?_)
    refine c_reg ?_ -- region 1 law.go:57
    refine wl (ro_move rfl) ?_
    refine wl_call rfl en_24 (Next24i J.r ho) ?_
    rintro _ w1 ⟨rfl, rfl⟩
    refine wl (ro_move rfl) ?_
    refine wl (ro_extract rfl rfl) ?_
    refine wl (ro_extract rfl rfl) ?_
    refine wl (ro_extract rfl rfl) ?_
    refine wl (ro_extract rfl rfl) ?_
    refine wl (ro_assign rfl) ?_
    refine wl (ro_assign rfl) ?_
    refine wl (ro_assign rfl) ?_
    refine wl (ro_assign rfl) ?_
    refine wl_nil (x_then (hK2 _ _ ?_))
    clear hK2 K2
    refine forget [(1, _), (6, _), (7, _), (8, _), (9, _)] ⟨rfl, rfl, rfl, rfl, rfl, trivial⟩ (fun e => ?_)
    refine c_seq (fun K3 hK3 => ?_)
    refine c_reg ?_ -- region 2 law.go:58
    refine wl (ro_move rfl) ?_
    refine wl_call rfl en_25 (Next25i J.m (A.opn ▸ ho)) ?_
    rintro _ w1 ⟨rfl, rfl⟩
    refine wl (ro_move rfl) ?_
    refine wl (ro_extract rfl rfl) ?_
    refine wl (ro_extract rfl rfl) ?_
    refine wl (ro_extract rfl rfl) ?_
    refine wl (ro_extract rfl rfl) ?_
    refine wl (ro_assign rfl) ?_
    refine wl (ro_assign rfl) ?_
    refine wl (ro_assign rfl) ?_
    refine wl (ro_assign rfl) ?_
    refine wl_nil (x_then (hK3 _ _ ?_))
    clear hK3 K3
    refine forget [(6, _), (7, _), (8, _), (9, _), (10, _), (11, _), (12, _), (13, _)] ⟨rfl, rfl, rfl, rfl, rfl, rfl, rfl, rfl, trivial⟩ (fun e => ?_)
    refine c_seq (fun K4 hK4 => ?_)
    refine c_reg ?_ -- region 3 law.go:59
    refine wl (ro_move rfl) ?_
    refine wl (ro_move rfl) ?_
    refine wl (ro_eqS (r := true) rfl rfl (by simp)) ?_
    refine wl (ro_move rfl) ?_
    refine wlg_yes rfl (ro_move rfl) ?_
    refine wlg_yes rfl (ro_move rfl) ?_
    refine wlg_yes rfl (ro_cmp (r := true) rfl rfl (by simp)) ?_
    refine wl (ro_pick rfl rfl rfl) ?_
    refine wl (ro_move rfl) ?_
    refine wlg_yes rfl (ro_move rfl) ?_
    refine wlg_yes rfl (ro_move rfl) ?_
    refine wlg_yes rfl (ro_cmp (r := true) rfl rfl (by simp)) ?_
    refine wl (ro_pick rfl rfl rfl) ?_
    refine wl (ro_move rfl) ?_
    refine wlg_yes rfl (ro_move rfl) ?_
    refine wlg_yes rfl (ro_move rfl) ?_
    refine wlg_yes rfl (ro_cmp (r := true) rfl rfl (by simp)) ?_
    refine wl (ro_pick rfl rfl rfl) ?_
    refine wl (ro_move rfl) ?_
    refine wl (ro_cmp (r := false) rfl rfl (by simp)) ?_
    refine wl (ro_assign rfl) ?_
    refine wl (ro_assign rfl) ?_
    refine wl_nil (x_then (hK4 _ _ ?_))
    clear hK4 K4
    refine c_ret ?_
    refine bp_ret Tryz.results11 rfl ?_
    exact ⟨false, n, rfl, ⟨F, J0, fun b h => .inl h, Fram.refl _ _⟩, fun h => by cases h⟩
  | true =>
    obtain ⟨L, E, c1, c2, c3, c4, c5, c6⟩ := A.op ho
    have h1 := Next24 J.r ho c1 A.fl c4 c3 (by omega)
    refine ret_of Tryz.func11 rfl Tryz.ntmps11 rfl ?_
    refine c_seq (fun K1 hK1 => ?_)
    refine c_reg ?_ -- region 0 law.go:56
    refine wl (ro_assign rfl) ?_
    refine wl (ro_assign rfl) ?_
    refine wl_nil (x_then (hK1 _ _ ?_))
    clear hK1 K1
    refine forget [(0, _), (1, _)] ⟨rfl, rfl, trivial⟩ (fun e => ?_)
    refine c_seq (fun K2 hK2 => ?_)
    refine c_reg ?_ -- region 1 law.go:57
    refine wl (ro_move rfl) ?_
    refine wl_call rfl en_24 (h1) ?_
    rintro _ w1 ⟨a, s1, hhd, rfl, P1, e1, e2, e3, e4, hcase⟩
    obtain ⟨Fr1, J1, u1, f1⟩ := J.stepR P1
    have hget : m.st.list[m.given]? = some a := by
      rw [← A.given]
      have := congrArg List.head? c2
      rw [hhd, List.head?_drop] at this
      exact this
    refine wl (ro_move rfl) ?_
    refine wl (ro_extract rfl rfl) ?_
    refine wl (ro_extract rfl rfl) ?_
    refine wl (ro_extract rfl rfl) ?_
    refine wl (ro_extract rfl rfl) ?_
    refine wl (ro_assign rfl) ?_
    refine wl (ro_assign rfl) ?_
    refine wl (ro_assign rfl) ?_
    refine wl (ro_assign rfl) ?_
    refine wl_nil (x_then (hK2 _ _ ?_))
    clear hK2 K2
    refine forget [(1, _), (6, _), (7, _), (8, _), (9, _)] ⟨rfl, rfl, rfl, rfl, rfl, trivial⟩ (fun e => ?_)
    refine c_seq (fun K3 hK3 => ?_)
    refine c_reg ?_ -- region 2 law.go:58
    refine wl (ro_move rfl) ?_
    refine wl_call rfl en_25 (Next25 J1.m (A.opn ▸ ho) hget (by rw [← A.given]; omega)) ?_
    rintro _ w2 ⟨rfl, P2⟩
    obtain ⟨Fm1, J2, u2, f2⟩ := J1.stepM P2
    refine wl (ro_move rfl) ?_
    refine wl (ro_extract rfl rfl) ?_
    refine wl (ro_extract rfl rfl) ?_
    refine wl (ro_extract rfl rfl) ?_
    refine wl (ro_extract rfl rfl) ?_
    refine wl (ro_assign rfl) ?_
    refine wl (ro_assign rfl) ?_
    refine wl (ro_assign rfl) ?_
    refine wl (ro_assign rfl) ?_
    refine wl_nil (x_then (hK3 _ _ ?_))
    clear hK3 K3
    refine forget [(6, _), (7, _), (8, _), (9, _), (10, _), (11, _), (12, _), (13, _)] ⟨rfl, rfl, rfl, rfl, rfl, rfl, rfl, rfl, trivial⟩ (fun e => ?_)
    refine c_seq (fun K4 hK4 => ?_)
    refine c_reg ?_ -- region 3 law.go:59
    refine wl (ro_move rfl) ?_
    refine wl (ro_move rfl) ?_
    refine wl (ro_eqS (r := true) rfl rfl (by simp)) ?_
    refine wl (ro_move rfl) ?_
    refine wlg_yes rfl (ro_move rfl) ?_
    refine wlg_yes rfl (ro_move rfl) ?_
    refine wlg_yes rfl (ro_cmp (r := true) rfl rfl (by simp)) ?_
    refine wl (ro_pick rfl rfl rfl) ?_
    refine wl (ro_move rfl) ?_
    refine wlg_yes rfl (ro_move rfl) ?_
    refine wlg_yes rfl (ro_move rfl) ?_
    refine wlg_yes rfl (ro_cmp (r := true) rfl rfl (by simp)) ?_
    refine wl (ro_pick rfl rfl rfl) ?_
    refine wl (ro_move rfl) ?_
    refine wlg_yes rfl (ro_move rfl) ?_
    refine wlg_yes rfl (ro_move rfl) ?_
    refine wlg_yes rfl (ro_cmp (r := true) rfl rfl (by simp)) ?_
    refine wl (ro_pick rfl rfl rfl) ?_
    refine wl (ro_move rfl) ?_
    refine wl (ro_cmp (r := decide (a.1 = 0)) rfl rfl (congrArg some (beqc a.1 0))) ?_
    refine wl (ro_assign rfl) ?_
    refine wl (ro_assign rfl) ?_
    refine wl_nil (x_then (hK4 _ _ ?_))
    clear hK4 K4
    refine c_ret ?_
    refine bp_ret Tryz.results11 rfl ?_
    rcases hcase with ⟨hL, o1, o2, o3, o4, o5⟩ | ⟨L', hL, o1, o2, o3⟩
    · have ha : a.1 ≠ 0 := by
        rw [hL] at hhd
        simp at hhd
        rw [← hhd]
        exact c3
      refine ⟨decide (a.1 = 0), n, rfl, J2.fin ?_ hF u1 f1 u2 f2, fun h => absurd (of_decide_eq_true h) ha⟩
      unfold mNextS
      rw [if_neg ha]
      exact ⟨e1.trans A.cls, o1, e2.trans A.q, e3.trans A.fuel, by simp only; rw [e4, A.given], by rw [e2]; exact A.ql, by rw [e3]; exact A.fl, by rw [e4]; omega, fun _ => ⟨o2, o3, o4, o5⟩, fun h => by rw [o1] at h; cases h⟩
    · refine ⟨decide (a.1 = 0), L'.length, rfl, J2.fin ?_ hF u1 f1 u2 f2, fun _ => by rw [← c6, hL]; simp⟩
      rw [hL] at c5 c2
      simp only [List.length_cons] at c5
      unfold mNextS
      rw [if_pos o3]
      refine ⟨e1.trans A.cls, o1.trans (by simp only; rw [← A.opn, ho]), e2.trans A.q, e3.trans A.fuel, by simp only; rw [e4, A.given], by rw [e2]; exact A.ql, by rw [e3]; exact A.fl, by rw [e4]; omega, fun h => (by rw [o1] at h; cases h), fun _ => ⟨L', E, o2, ?_, c3, c4, by rw [e4]; omega, rfl⟩⟩
      simp only
      rw [e4, ← List.drop_drop, c2]
      rfl

/-- A new tower and a new model. -/
theorem jf_new {w0 w w' : World} {sb mb : Nat} {F Fm : Nat → Prop} (hA : RAll w.heap sb rs0 F) (hM : MAll w'.heap mb ⟨[], false, [], 0, 0, ⟨0, 0, 0, []⟩⟩ Fm) (hFm : ∀ b, Fm b → w.heap.size ≤ b) (f : Fram none' w w') : JF w' sb mb 0 (fun b => F b ∨ Fm b) := by
  refine ⟨rs0, _, F, Fm, ⟨hA.fram f (fun _ _ h => h), hM, ?_⟩, fun b => Iff.rfl, ⟨rfl, rfl, rfl, rfl, rfl, by simp [rs0], by simp [rs0], by simp [rs0], fun _ => ⟨rfl, rfl, rfl, rfl⟩, fun h => by simp [rs0] at h⟩⟩
  intro b hb hm
  have h1 := hA.lt hb
  have h2 := hFm b hm
  omega

end Go.Proofs.Qxb6500569aGreat
