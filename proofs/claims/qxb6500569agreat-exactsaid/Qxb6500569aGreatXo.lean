import Derived.Test.Qxb6500569aGreatXk
/- A world of towers, and one step in it. -/
namespace Go.Proofs.Qxb6500569aGreat
set_option linter.unusedVariables false
set_option linter.unusedSimpArgs false

theorem pick45 {w : World} {c : Int} {n : Nat} (hn : 0 < n) (h1 : -9223372036854775808 ≤ c) (h2 : c ≤ 9223372036854775807) : Ret Tryz.prog 45 [.int .i64 c, i64c n] w (fun r w' => (∃ i, r = i64c i ∧ i < n) ∧ w' = w) := by
  have hrem : ∀ x : Int, 0 ≤ x → ∃ i : Nat, x.tmod (n : Int) = (i : Int) ∧ i < n := by
    intro x hx
    refine ⟨(x.tmod (n : Int)).toNat, ?_, ?_⟩
    · have := Int.tmod_nonneg (n : Int) hx; omega
    · have := Int.tmod_lt_of_pos x (show (0 : Int) < n by omega); have := Int.tmod_nonneg (n : Int) hx; omega
  refine ret_of Tryz.func45 rfl Tryz.ntmps45 rfl ?_
  refine c_seq (fun K1 hK1 => ?_)
  refine c_reg ?_ -- region 0 law.go:36
  refine wl (ro_assign rfl) ?_
  refine wl_nil (x_then (hK1 _ _ ?_))
  clear hK1 K1
  refine c_seq (fun K2 hK2 => ?_)
  refine c_seq (fun K3 hK3 => ?_)
  refine c_reg ?_ -- region 1 law.go:37
  refine wl (ro_move rfl) ?_
  refine wl (ro_cmp rfl rfl rfl) ?_
  refine wl_nil (x_then (hK3 _ _ ?_))
  clear hK3 K3
  refine wc_cond rfl (fun hc6 => ?_) (fun hc6 => ?_)
  · try simp only [decide_eq_true_eq, decide_eq_false_iff_not, Bool.not_eq_true', Bool.not_eq_false', Bool.not_eq_eq_eq_not, Bool.not_true, Bool.not_false, beq_iff_eq, bne_iff_ne, ne_eq, beq_eq_false_iff_ne, bne_eq_false_iff_eq, gt_iff_lt, ge_iff_le, Int.not_lt, Int.not_le] at hc6
    obtain ⟨i, hi, hin⟩ := hrem (-(c + 1)) (by omega)
    refine c_reg ?_ -- region 2 law.go:38
    refine wl (ro_move rfl) ?_
    refine wl (ro_arith rfl rfl rfl (Go.IntWalk.i64_in _ (by omega))) ?_
    refine wl (ro_neg rfl (⟨by omega, by omega⟩)) ?_
    refine wl (ro_assign rfl) ?_
    refine wl_nil (x_then (hK2 _ _ ?_))
    clear hK2 K2
    refine forget [(0, _), (1, _)] ⟨rfl, rfl, trivial⟩ (fun e => ?_)
    refine c_seq (fun K4 hK4 => ?_)
    refine c_reg ?_ -- region 3 law.go:40
    refine wl (ro_move rfl) ?_
    refine wl (ro_move rfl) ?_
    refine wl (ro_rem rfl rfl (by omega)) ?_
    refine wl (ro_assign rfl) ?_
    refine wl_nil (x_then (hK4 _ _ ?_))
    clear hK4 K4
    refine c_ret ?_
    refine bp_ret Tryz.results45 rfl ?_
    exact ⟨⟨i, by simp only [i64c]; rw [← hi], hin⟩, rfl⟩
  · try simp only [decide_eq_true_eq, decide_eq_false_iff_not, Bool.not_eq_true', Bool.not_eq_false', Bool.not_eq_eq_eq_not, Bool.not_true, Bool.not_false, beq_iff_eq, bne_iff_ne, ne_eq, beq_eq_false_iff_ne, bne_eq_false_iff_eq, gt_iff_lt, ge_iff_le, Int.not_lt, Int.not_le] at hc6
    obtain ⟨i, hi, hin⟩ := hrem c (by omega)
    refine c_skip (x_then (hK2 _ _ ?_))
    clear hK2 K2
    refine forget [(0, _), (1, _)] ⟨rfl, rfl, trivial⟩ (fun e => ?_)
    refine c_seq (fun K5 hK5 => ?_)
    refine c_reg ?_ -- region 3 law.go:40
    refine wl (ro_move rfl) ?_
    refine wl (ro_move rfl) ?_
    refine wl (ro_rem rfl rfl (by omega)) ?_
    refine wl (ro_assign rfl) ?_
    refine wl_nil (x_then (hK5 _ _ ?_))
    clear hK5 K5
    refine c_ret ?_
    refine bp_ret Tryz.results45 rfl ?_
    exact ⟨⟨i, by simp only [i64c]; rw [← hi], hin⟩, rfl⟩

/-- Clear of both. -/
theorem clear_both {w : World} {sb mb n : Nat} {F : Nat → Prop} (J : JF w sb mb n F) : ∃ e, Ret Tryz.prog 46 [ptr sb] w (fun r w1 => r = i64c e ∧ Ret Tryz.prog 47 [ptr mb] w1 (fun r w2 => r = i64c e ∧ JPost F sb mb n w w2)) := by
  obtain ⟨s, m, Fr, Fm, J, hF, A⟩ := J
  refine ⟨rClrE s.opn, (Clear46 J.r).mono ?_⟩
  rintro _ w1 ⟨rfl, P1⟩
  obtain ⟨Fr1, J1, u1, f1⟩ := J.stepR P1
  refine ⟨rfl, (Clear47 J1.m).mono ?_⟩
  rintro _ w2 ⟨rfl, P2⟩
  obtain ⟨Fm1, J2, u2, f2⟩ := J1.stepM P2
  refine ⟨by rw [A.opn], J2.fin ?_ hF u1 f1 u2 f2⟩
  unfold rClrS mClrS
  rw [← A.opn]
  cases ho : s.opn with
  | true => exact A
  | false =>
    simp only [Bool.false_eq_true, if_false]
    exact ⟨rfl, rfl, A.q, A.fuel, A.given, A.ql, A.fl, A.gl, fun _ => A.cl ho, fun h => by cases h⟩

/-- Halt of both. -/
theorem halt_both {w : World} {sb mb n : Nat} {F : Nat → Prop} (J : JF w sb mb n F) : ∃ e, Ret Tryz.prog 48 [ptr sb] w (fun r w1 => r = i64c e ∧ Ret Tryz.prog 49 [ptr mb] w1 (fun r w2 => r = i64c e ∧ JPost F sb mb n w w2)) := by
  obtain ⟨s, m, Fr, Fm, J, hF, A⟩ := J
  refine ⟨haltE s.opn, (Halt48 J.r).mono ?_⟩
  rintro _ w1 ⟨rfl, P1⟩
  obtain ⟨Fr1, J1, u1, f1⟩ := J.stepR P1
  refine ⟨rfl, (Halt49 J1.m).mono ?_⟩
  rintro _ w2 ⟨rfl, P2⟩
  obtain ⟨Fm1, J2, u2, f2⟩ := J1.stepM P2
  refine ⟨by rw [A.opn], J2.fin ?_ hF u1 f1 u2 f2⟩
  unfold rHltS mHltS
  rw [← A.opn]
  cases ho : s.opn with
  | true =>
    simp only [if_true]
    exact ⟨A.cls, rfl, A.q, A.fuel, A.given, A.ql, A.fl, A.gl, fun _ => ⟨rfl, rfl, rfl, rfl⟩, fun h => by cases h⟩
  | false => exact A

theorem checked50 {w : World} {sb mb n : Nat} {F : Nat → Prop} (J : JF w sb mb n F) : Ret Tryz.prog 50 [ptr sb] w (fun r w' => r = .bool true ∧ Fram none' w w') := by
  obtain ⟨s, m, Fr, Fm, J, hF, A⟩ := J
  cases ho : s.opn with
  | false =>
    obtain ⟨h1, h2, h3, h4⟩ := A.cl ho
    exact (Check50i J.r ho h1 h2 h3 h4).mono (by rintro _ _ ⟨rfl, rfl⟩; exact ⟨rfl, Fram.refl _ _⟩)
  | true =>
    obtain ⟨L, E, c1, _⟩ := A.op ho
    exact Check50 J.r ho (chk_strm A.fl c1)

/-- The towers. -/
structure TW (w : World) (wb : Nat) (VX VM : Value) (ts : List (Nat × Nat)) (Fs : Nat → Nat → Prop) : Prop where
  blk : Blk w.heap wb [VX, VM] 62
  ox : Own w.heap VX 26 1 ts.length (ts.map (fun t => ptr t.1))
  om : Own w.heap VM 30 1 ts.length (ts.map (fun t => ptr t.2))
  tw : ∀ (i : Nat) (t : Nat × Nat), ts[i]? = some t → ∃ n, JF w t.1 t.2 n (Fs i)
  dj : ∀ i j b, i < ts.length → j < ts.length → i ≠ j → Fs i b → ¬ Fs j b
  dw : ∀ i b, i < ts.length → Fs i b → b ≠ wb ∧ VX.ownBlock ≠ some b ∧ VM.ownBlock ≠ some b

theorem TW.none {w w' : World} {wb : Nat} {VX VM : Value} {ts : List (Nat × Nat)} {Fs : Nat → Nat → Prop} (h : TW w wb VX VM ts Fs) (hf : Fram none' w w') : TW w' wb VX VM ts Fs :=
  ⟨h.blk.fram hf (fun h => h), h.ox.fram hf (fun _ _ h => h), h.om.fram hf (fun _ _ h => h), fun i t ht => by obtain ⟨n, J⟩ := h.tw i t ht; exact ⟨n, J.fram hf (fun _ _ h => h)⟩, h.dj, h.dw⟩

theorem TW.lt {w : World} {wb : Nat} {VX VM : Value} {ts : List (Nat × Nat)} {Fs : Nat → Nat → Prop} (h : TW w wb VX VM ts Fs) {i b : Nat} (hi : i < ts.length) (hb : Fs i b) : b < w.heap.size := by
  obtain ⟨n, J⟩ := h.tw i _ (List.getElem?_eq_getElem hi)
  exact J.lt hb

theorem TW.x {w : World} {wb : Nat} {VX VM : Value} {ts : List (Nat × Nat)} {Fs : Nat → Nat → Prop} (h : TW w wb VX VM ts Fs) {i : Nat} {t : Nat × Nat} (ht : ts[i]? = some t) :
    ∃ g c l, VX = .slice (some ⟨g, 0, Option.none⟩) ts.length c ∧ Blk w.heap g l 26 ∧ l[0 + i * 1]? = some (ptr t.1) := by
  have hi := (List.getElem?_eq_some_iff.1 ht).1
  rcases h.ox.2 with ⟨_, h0⟩ | ⟨g, cap, l, h1, h2, h3, h4, h5, h6⟩
  · omega
  · exact ⟨g, cap, l, h1, h2, by rw [Nat.zero_add]; exact own_get h6 (by simp [ht])⟩

theorem TW.m {w : World} {wb : Nat} {VX VM : Value} {ts : List (Nat × Nat)} {Fs : Nat → Nat → Prop} (h : TW w wb VX VM ts Fs) {i : Nat} {t : Nat × Nat} (ht : ts[i]? = some t) :
    ∃ g c l, VM = .slice (some ⟨g, 0, Option.none⟩) ts.length c ∧ Blk w.heap g l 30 ∧ l[0 + i * 1]? = some (ptr t.2) := by
  have hi := (List.getElem?_eq_some_iff.1 ht).1
  rcases h.om.2 with ⟨_, h0⟩ | ⟨g, cap, l, h1, h2, h3, h4, h5, h6⟩
  · omega
  · exact ⟨g, cap, l, h1, h2, by rw [Nat.zero_add]; exact own_get h6 (by simp [ht])⟩

/-- The world, over the blocks that stood before it. -/
def TWI (w0 w : World) (wb N : Nat) : Prop := ∃ VX VM ts Fs, TW w wb VX VM ts Fs ∧ ts.length ≤ N ∧ w0.heap.size ≤ wb ∧ (∀ b, VX.ownBlock = some b → w0.heap.size ≤ b) ∧ (∀ b, VM.ownBlock = some b → w0.heap.size ≤ b) ∧ (∀ i b, i < ts.length → Fs i b → w0.heap.size ≤ b) ∧ Fram none' w0 w

theorem TWI.none {w0 w w' : World} {wb N : Nat} (h : TWI w0 w wb N) (hf : Fram none' w w') : TWI w0 w' wb N := by
  obtain ⟨VX, VM, ts, Fs, h1, h2, h3, h4, h5, h6, h7⟩ := h
  exact ⟨VX, VM, ts, Fs, h1.none hf, h2, h3, h4, h5, h6, h7.trans hf⟩

theorem TWI.up {w0 w : World} {wb N M : Nat} (h : TWI w0 w wb N) (hm : N ≤ M) : TWI w0 w wb M := by
  obtain ⟨VX, VM, ts, Fs, h1, h2, h3⟩ := h
  exact ⟨VX, VM, ts, Fs, h1, by omega, h3⟩

/-- One tower has moved. -/
theorem TW.at {w w' : World} {wb : Nat} {VX VM : Value} {ts : List (Nat × Nat)} {Fs : Nat → Nat → Prop} (h : TW w wb VX VM ts Fs) {i n' : Nat} {t : Nat × Nat} (ht : ts[i]? = some t) (P : JPost (Fs i) t.1 t.2 n' w w') :
    ∃ Fs', TW w' wb VX VM ts Fs' ∧ (∀ j b, j < ts.length → Fs' j b → Fs j b ∨ w.heap.size ≤ b) ∧ Fram (Fs i) w w' := by
  obtain ⟨F', J', h1, h2⟩ := P
  have hi := (List.getElem?_eq_some_iff.1 ht).1
  have hnew : ∀ j b, j < ts.length → (if j = i then F' b else Fs j b) → Fs j b ∨ w.heap.size ≤ b := by
    intro j b hj hb
    split at hb
    · rename_i he; subst he; exact h1 b hb
    · exact .inl hb
  refine ⟨fun j b => if j = i then F' b else Fs j b, ⟨h.blk.fram h2 (fun hx => (h.dw i _ hi hx).1 rfl), h.ox.fram h2 (fun b hb hx => (h.dw i b hi hx).2.1 hb), h.om.fram h2 (fun b hb hx => (h.dw i b hi hx).2.2 hb), ?_, ?_, ?_⟩, hnew, h2⟩
  · intro j z hz
    have hj := (List.getElem?_eq_some_iff.1 hz).1
    by_cases he : j = i
    · subst he
      rw [ht] at hz
      cases hz
      exact ⟨n', by simpa using J'⟩
    · obtain ⟨n, J⟩ := h.tw j z hz
      refine ⟨n, ?_⟩
      have := J.fram h2 (fun b hb hx => h.dj j i b hj hi he hb hx)
      simpa [he] using this
  · intro j k b hj hk hjk hb hb'
    split at hb
    · rename_i he
      subst he
      rw [if_neg (fun h => hjk h.symm)] at hb'
      rcases h1 b hb with hh | hh
      · exact h.dj j k b hj hk hjk hh hb'
      · have := h.lt hk hb'; omega
    · rename_i he
      split at hb'
      · rename_i he'
        subst he'
        rcases h1 b hb' with hh | hh
        · exact h.dj k j b hk hj (fun h => hjk h.symm) hh hb
        · have := h.lt hj hb; omega
      · exact h.dj j k b hj hk hjk hb hb'
  · intro j b hj hb
    rcases hnew j b hj hb with hh | hh
    · exact h.dw j b hj hh
    · refine ⟨fun he => ?_, fun he => ?_, fun he => ?_⟩
      · have := h.blk.lt; omega
      · have := h.ox.lt he; omega
      · have := h.om.lt he; omega

theorem TWI.at {w0 w w' : World} {wb N : Nat} {VX VM : Value} {ts : List (Nat × Nat)} {Fs : Nat → Nat → Prop} (h : TW w wb VX VM ts Fs) (hN : ts.length ≤ N) (b0 : w0.heap.size ≤ wb) (b1 : ∀ b, VX.ownBlock = some b → w0.heap.size ≤ b) (b2 : ∀ b, VM.ownBlock = some b → w0.heap.size ≤ b) (b3 : ∀ i b, i < ts.length → Fs i b → w0.heap.size ≤ b) (b4 : Fram none' w0 w)
    {i n' : Nat} {t : Nat × Nat} (ht : ts[i]? = some t) (P : JPost (Fs i) t.1 t.2 n' w w') : TWI w0 w' wb N := by
  obtain ⟨Fs', h1, h2, h3⟩ := h.at ht P
  have hi := (List.getElem?_eq_some_iff.1 ht).1
  have hs := b4.size
  refine ⟨VX, VM, ts, Fs', h1, hN, b0, b1, b2, ?_, b4.trans' h3 (fun b hb hx => by have := b3 i b hi hx; omega)⟩
  intro j b hj hb
  rcases h2 j b hj hb with hh | hh
  · exact b3 j b hj hh
  · omega

/-- One tower more. -/
theorem TW.more {w w' : World} {wb : Nat} {VX VM VX' VM' : Value} {ts : List (Nat × Nat)} {Fs : Nat → Nat → Prop} {sb mb n : Nat} {F : Nat → Prop} (h : TW w wb VX VM ts Fs) (J : JF w sb mb n F) (hd : ∀ b, F b → b ≠ wb ∧ VX.ownBlock ≠ some b ∧ VM.ownBlock ≠ some b ∧ ∀ i, i < ts.length → ¬ Fs i b)
    (blk : Blk w'.heap wb [VX', VM'] 62) (ox : Own w'.heap VX' 26 1 (ts.length + 1) (ts.map (fun t => ptr t.1) ++ [ptr sb])) (om : Own w'.heap VM' 30 1 (ts.length + 1) (ts.map (fun t => ptr t.2) ++ [ptr mb]))
    (nx : ∀ b, VX'.ownBlock = some b → VX.ownBlock = some b ∨ w.heap.size ≤ b) (nm : ∀ b, VM'.ownBlock = some b → VM.ownBlock = some b ∨ w.heap.size ≤ b) (hf : Fram (fun b => b = wb ∨ VX.ownBlock = some b ∨ VM.ownBlock = some b) w w') :
    TW w' wb VX' VM' (ts ++ [(sb, mb)]) (fun i b => if i = ts.length then F b else Fs i b) := by
  refine ⟨blk, by simpa using ox, by simpa using om, ?_, ?_, ?_⟩
  · intro i t ht
    have hl := (List.getElem?_eq_some_iff.1 ht).1
    simp at hl
    by_cases hi : i < ts.length
    · rw [List.getElem?_append_left hi] at ht
      obtain ⟨n, J⟩ := h.tw i t ht
      refine ⟨n, ?_⟩
      have := J.fram hf (fun b hb hx => by
        have hh := h.dw i b hi hb
        rcases hx with hx | hx | hx
        · exact hh.1 hx
        · exact hh.2.1 hx
        · exact hh.2.2 hx)
      simpa [Nat.ne_of_lt hi] using this
    · have : i = ts.length := by omega
      subst this
      simp at ht
      subst ht
      refine ⟨n, ?_⟩
      have := J.fram hf (fun b hb hx => by
        have hh := hd b hb
        rcases hx with hx | hx | hx
        · exact hh.1 hx
        · exact hh.2.1 hx
        · exact hh.2.2.1 hx)
      simpa using this
  · intro i j b hi hj hij hb hb'
    simp at hi hj
    split at hb
    · rename_i he
      rw [if_neg (fun h => hij (he.trans h.symm))] at hb'
      exact (hd b hb).2.2.2 j (by omega) hb'
    · rename_i he
      split at hb'
      · exact (hd b hb').2.2.2 i (by omega) hb
      · exact h.dj i j b (by omega) (by omega) hij hb hb'
  · intro i b hi hb
    simp at hi
    have key : b < w.heap.size ∧ b ≠ wb ∧ VX.ownBlock ≠ some b ∧ VM.ownBlock ≠ some b := by
      split at hb
      · exact ⟨J.lt hb, (hd b hb).1, (hd b hb).2.1, (hd b hb).2.2.1⟩
      · rename_i he
        have := h.dw i b (by omega) hb
        exact ⟨h.lt (by omega) hb, this.1, this.2.1, this.2.2⟩
    refine ⟨key.2.1, fun he => ?_, fun he => ?_⟩
    · rcases nx b he with hh | hh
      · exact key.2.2.1 hh
      · omega
    · rcases nm b he with hh | hh
      · exact key.2.2.2 hh
      · omega

set_option maxHeartbeats 4000000 in
theorem step26 {w0 w : World} {wb N : Nat} (I : TWI w0 w wb N) (hN : N ≤ 1073741824) (k A B C : Int) (t t2 : List UInt8) (hA1 : -9223372036854775808 ≤ A) (hA2 : A ≤ 9223372036854775807) :
    Ret Tryz.prog 26 [ptr wb, .agg [.int .i64 k, .int .i64 A, .int .i64 B, .int .i64 C, S t, S t2].toArray] w (fun r w' => r = .bool true ∧ TWI w0 w' wb (N + 1)) := by
  refine ret_of Tryz.func26 rfl Tryz.ntmps26 rfl ?_
  refine c_seq (fun K1 hK1 => ?_)
  refine c_reg ?_ -- region 0 law.go:96
  refine wle (eo_box rfl rfl) ?_
  have hO := Blk.new w [.int .i64 k, .int .i64 A, .int .i64 B, .int .i64 C, S t, S t2] 57
  have I1 := I.none (Fram.alloc none' w (.cells [.int .i64 k, .int .i64 A, .int .i64 B, .int .i64 C, S t, S t2].toArray 57))
  refine gen2 (A := fun w1 => Blk w1.heap w.heap.size [.int .i64 k, .int .i64 A, .int .i64 B, .int .i64 C, S t, S t2] 57) (B := fun w1 => TWI w0 w1 wb N) (C := fun w1 => WL _ _ _ _ _ w1) hO I1 ?_
  generalize w.heap.size = ob
  clear hO I1 I
  intro w1 hO I
  refine wl (ro_assign rfl) ?_
  refine wl_nil (x_then (hK1 _ _ ?_))
  clear hK1 K1
  refine c_seq (fun K2 hK2 => ?_)
  refine c_seq (fun K3 hK3 => ?_)
  refine c_reg ?_ -- region 1 law.go:97
  refine wl (ro_fieldAddr (k := 0) rfl fo_57_0) ?_
  refine wl (ro_loadB rfl sc_3 (by assumption) rfl) ?_
  refine wl (ro_cmp rfl rfl rfl) ?_
  refine wl_nil (x_then (hK3 _ _ ?_))
  clear hK3 K3
  refine wc_cond rfl (fun hc18 => ?_) (fun hc18 => ?_)
  · try simp only [decide_eq_true_eq, decide_eq_false_iff_not, Bool.not_eq_true', Bool.not_eq_false', Bool.not_eq_eq_eq_not, Bool.not_true, Bool.not_false, beq_iff_eq, bne_iff_ne, ne_eq, beq_eq_false_iff_ne, bne_eq_false_iff_eq, gt_iff_lt, ge_iff_le, Int.not_lt, Int.not_le] at hc18
    obtain ⟨VX, VM, ts, Fs, T, hts, b0, b1, b2, b3, b4⟩ := I
    clear hO
    have hs01 := b4.size
    refine c_seq (fun K4 hK4 => ?_)
    refine c_reg ?_ -- region 2 law.go:98
    refine wl_call rfl en_6 (New6) ?_
    rintro _ w2 ⟨L, pb, sb, F, rfl, hA, hFb, F2⟩
    have T2 := T.none F2
    refine wle (eo_alloc ze_28) ?_
    have hN := Blk.new w2 [.pointer none, .pointer none, .pointer none] 28
    have FA : Fram none' w2 (w2.alloc (.cells [.pointer none, .pointer none, .pointer none].toArray 28)) := Fram.alloc none' w2 _
    refine wls (so_storeAggB rfl rfl ((by simp [ptr, Value.oneCell'])) sz_28 rfl (hN) ((by simp))) ?_
    have FS : Fram (fun b => b = w2.heap.size) (w2.alloc (.cells [.pointer none, .pointer none, .pointer none].toArray 28)) _ := Fram.set _ w2.heap.size [ptr L.h, ptr pb, ptr sb].toArray (.inl rfl)
    have hN2 := hN.set [ptr L.h, ptr pb, ptr sb]
    have F23 : Fram none' w2 _ := FA.trans' FS (fun b hb he => absurd he (by omega))
    refine gen2 (A := fun w3 => Blk w3.heap w2.heap.size [ptr L.h, ptr pb, ptr sb] 28) (B := fun w3 => Fram none' w2 w3) (C := fun w3 => WL _ _ _ _ _ w3) hN2 F23 ?_
    clear hN2 F23 FS FA hN
    intro w3 hN3 F3
    generalize w2.heap.size = tb at hN3 ⊢
    have T3 := T2.none F3
    have hA3 := hA.fram F3 (fun _ _ h => h)
    have b43 := (b4.trans F2).trans F3
    have hs2 := F2.size
    have hs3 := F3.size
    clear T2 hA F3
    refine wl_nil (x_then (hK4 _ _ ?_))
    clear hK4 K4
    refine forget [(0, _), (5, _)] ⟨rfl, rfl, trivial⟩ (fun e => ?_)
    refine c_seq (fun K5 hK5 => ?_)
    refine c_reg ?_ -- region 3 law.go:99
    refine wl_call rfl en_7 (New7) ?_
    rintro _ w4 ⟨mb, Fm, rfl, hM, hFm, F4⟩
    have J := jf_new (w0 := w0) hA3 hM hFm F4
    have T4 := T3.none F4
    have hN4 := hN3.fram F4 (fun h => h)
    have b44 := b43.trans F4
    have hs4 := F4.size
    have hge : ∀ b, F b ∨ Fm b → w1.heap.size ≤ b := by
      rintro b (h | h)
      · exact hFb b h
      · have := hFm b h; omega
    have hdis : ∀ b, F b ∨ Fm b → b ≠ wb ∧ VX.ownBlock ≠ some b ∧ VM.ownBlock ≠ some b ∧ ∀ i, i < ts.length → ¬ Fs i b := by
      intro b hb
      have h1 := hge b hb
      refine ⟨fun h => ?_, fun h => ?_, fun h => ?_, fun i hi h => ?_⟩
      · have := T.blk.lt; omega
      · have := T.ox.lt h; omega
      · have := T.om.lt h; omega
      · have := T.lt hi h; omega
    clear T3 hA3 hM F4 hN3 T b4 b43
    have hB4 := T4.blk
    obtain ⟨aX, cX, hVX⟩ := T4.ox.form
    obtain ⟨aM, cM, hVM⟩ := T4.om.form
    have hoX := T4.ox
    have hoM := T4.om
    rw [hVX] at hB4 hoX
    rw [hVM] at hB4 hoM
    refine wl (ro_assign rfl) ?_
    refine wl_nil (x_then (hK5 _ _ ?_))
    clear hK5 K5
    refine forget [(0, _), (5, _), (6, _)] ⟨rfl, rfl, rfl, trivial⟩ (fun e => ?_)
    refine c_seq (fun K6 hK6 => ?_)
    refine c_piL 11 [(0, false), (1, false), (2, false), (3, false), (4, false), (5, false), (6, false), (7, true), (8, true), (9, false), (10, false)] (fun w' => Blk w'.heap wb [.slice aX ts.length cX, .slice aM ts.length cM] 62 ∧ Blk w'.heap tb [ptr L.h, ptr pb, ptr sb] 28) mixed (by kernel_rfl) rfl (by kernel_rfl) (po_then (po_then (po_bp))) (⟨hB4, hN4⟩) ?_ -- region 4 law.go:100
    refine ql_ro rfl (fun w hS => ro_move rfl) ?_
    refine ql_ro rfl (fun w hS => ro_move rfl) ?_
    refine ql_ro rfl (fun w hS => ro_nilCheck rfl) ?_
    refine ql_ro rfl (fun w hS => ro_fieldAddr (k := 0) rfl fo_62_0) ?_
    refine ql_ro rfl (fun w hS => ro_loadB rfl sc_59 (hS.1) (rfl)) ?_
    refine ql_ro rfl (fun w hS => ro_fieldAddr (k := 2) rfl fo_28_2) ?_
    refine ql_ro rfl (fun w hS => ro_loadB rfl sc_26 (hS.2) (rfl)) ?_
    refine ql_eo rfl (eo_bs1 rfl rfl se_59 zx_26 rfl rfl rfl) (⟨hB4.alloc _, hN4.alloc _⟩) ?_
    have hN5 := Blk.new { w4 with drawn := w4.drawn + 1 } [ptr sb] 26
    have hox5 := (hoX.fram (Fram.drew none' _ (w4.drawn + 1)) (fun _ _ h => h)).alloc (.cells [ptr sb].toArray 26)
    have hB5 := (hB4.fram (Fram.drew none' _ (w4.drawn + 1)) (fun h => h)).alloc (.cells [ptr sb].toArray 26)
    have hN45 := (hN4.fram (Fram.drew none' _ (w4.drawn + 1)) (fun h => h)).alloc (.cells [ptr sb].toArray 26)
    have hom5 := (hoM.fram (Fram.drew none' _ (w4.drawn + 1)) (fun _ _ h => h)).alloc (.cells [ptr sb].toArray 26)
    have F45 : Fram none' w4 (World.alloc { w4 with drawn := w4.drawn + 1 } (.cells [ptr sb].toArray 26)) := (Fram.drew none' w4 (w4.drawn + 1)).trans (Fram.alloc none' _ _)
    refine ql_app (news := [ptr sb]) rfl rfl rfl se_59 zx_26 by_26 rfl hox5 hN5 rfl rfl (by simp [ptr, Value.oneCell']) (by omega) (by omega) ?_
    intro VX6 w6 hox6 hgr hloc
    have FA6 : Fram (fun b => (Value.slice aX ts.length cX).ownBlock = some b) _ w6 := Fram.grown hgr (fun k hk => .inl hk)
    have hB6 := hB5.fram FA6 (fun hk => hox5.neblk hB5 (by decide) _ hk rfl)
    have hN46 := hN45.fram FA6 (fun hk => hox5.neblk hN45 (by decide) _ hk rfl)
    have hom6 := hom5.fram FA6 (fun b hb hk => by
      rcases hom5.2 with ⟨h1, _⟩ | ⟨g, cap, l, h1, h2, _⟩
      · rw [h1] at hb; cases hb
      · rw [h1] at hb; cases hb
        exact hox5.neblk h2 (by decide) _ hk rfl)
    obtain ⟨aX6, cX6, rfl⟩ := hox6.form
    refine ⟨⟨hB6, hN46⟩, ?_⟩
    refine ql_ro rfl (fun w hS => ro_nilCheck rfl) ?_
    refine ql_ro rfl (fun w hS => ro_fieldAddr (k := 0) rfl fo_62_0) ?_
    refine ql_last rfl (so_storeB rfl rfl rfl sz_59 (hB6) (by simp)) ?_
    have FS7 : Fram (fun b => b = wb) w6 _ := Fram.set w6 wb [.slice aX6 (ts.length + 1) cX6, .slice aM ts.length cM].toArray (.inl rfl)
    have hB7 := hB6.set [.slice aX6 (ts.length + 1) cX6, .slice aM ts.length cM]
    have hox7 := hox6.fram FS7 (fun b hb he => hox6.neblk hB6 (by decide) b hb he)
    have hom7 := hom6.fram FS7 (fun b hb he => hom6.neblk hB6 (by decide) b hb he)
    have F47 : Fram (fun b => b = wb ∨ (Value.slice aX ts.length cX).ownBlock = some b ∨ (Value.slice aM ts.length cM).ownBlock = some b) w4 _ := ((F45.mono (fun _ _ h => h.elim)).trans (FA6.mono (fun b _ h => .inr (.inl h)))).trans (FS7.mono (fun b _ h => .inl h))
    have hnx : ∀ b, (Value.slice aX6 (ts.length + 1) cX6).ownBlock = some b → (Value.slice aX ts.length cX).ownBlock = some b ∨ w4.heap.size ≤ b := by
      intro b hb
      rcases hloc with h | h
      · rw [h] at hb; exact .inl hb
      · rw [h] at hb; cases hb; exact .inr (by simp)
    refine gen3 (A := fun w7 => Blk w7.heap wb [.slice aX6 (ts.length + 1) cX6, .slice aM ts.length cM] 62) (B := fun w7 => Own w7.heap (.slice aX6 (ts.length + 1) cX6) 26 1 (ts.length + 1) (ts.map (fun t : Nat × Nat => ptr t.1) ++ [ptr sb]) ∧ Own w7.heap (.slice aM ts.length cM) 30 1 ts.length (ts.map (fun t : Nat × Nat => ptr t.2))) (D := fun w7 => Fram (fun b => b = wb ∨ (Value.slice aX ts.length cX).ownBlock = some b ∨ (Value.slice aM ts.length cM).ownBlock = some b) w4 w7) hB7 ⟨hox7, hom7⟩ F47 ?_
    clear hB7 hox7 hom7 F47 FS7 hB6 hox6 hom6 hN46 FA6 hgr hloc hN5 hox5 hB5 hN45 hom5 F45 hN4
    rintro w7 hB7 ⟨hox7, hom7⟩ F47
    refine x_then (hK6 _ _ ?_)
    clear hK6 K6
    refine forget [(0, _), (6, _)] ⟨rfl, rfl, trivial⟩ (fun e => ?_)
    refine c_seq (fun K7 hK7 => ?_)
    refine c_reg ?_ -- region 5 law.go:101
    refine wl (ro_move rfl) ?_
    refine wl (ro_move rfl) ?_
    refine wl (ro_nilCheck rfl) ?_
    refine wl (ro_fieldAddr (k := 1) rfl fo_62_1) ?_
    refine wl (ro_loadB rfl sc_60 (hB7) rfl) ?_
    refine wl (ro_move rfl) ?_
    refine wle (eo_bs1 rfl rfl se_60 zx_30 rfl rfl rfl) ?_
    have hN8 := Blk.new w7 [ptr mb] 30
    have hom8 := hom7.alloc (.cells [ptr mb].toArray 30)
    have hox8 := hox7.alloc (.cells [ptr mb].toArray 30)
    have hB8 := hB7.alloc (.cells [ptr mb].toArray 30)
    have F78 : Fram none' w7 (w7.alloc (.cells [ptr mb].toArray 30)) := Fram.alloc none' w7 _
    refine wl_app (news := [ptr mb]) rfl rfl se_60 zx_30 by_30 rfl hom8 hN8 rfl rfl (by simp [ptr, Value.oneCell']) (by omega) (by omega) ?_
    intro VM9 w9 hom9 hgr hloc
    have FA9 : Fram (fun b => (Value.slice aM ts.length cM).ownBlock = some b) _ w9 := Fram.grown hgr (fun k hk => .inl hk)
    have hB9 := hB8.fram FA9 (fun hk => hom8.neblk hB8 (by decide) _ hk rfl)
    have hox9 := hox8.fram FA9 (fun b hb hk => by
      rcases hox8.2 with ⟨h1, _⟩ | ⟨g, cap, l, h1, h2, _⟩
      · rw [h1] at hb; cases hb
      · rw [h1] at hb; cases hb
        exact hom8.neblk h2 (by decide) _ hk rfl)
    obtain ⟨aM9, cM9, rfl⟩ := hom9.form
    refine wl (ro_nilCheck rfl) ?_
    refine wl (ro_fieldAddr (k := 1) rfl fo_62_1) ?_
    refine wls (so_storeB rfl rfl rfl sz_60 (hB9) (by simp)) ?_
    have FS10 : Fram (fun b => b = wb) w9 _ := Fram.set w9 wb [.slice aX6 (ts.length + 1) cX6, .slice aM9 (ts.length + 1) cM9].toArray (.inl rfl)
    have hB10 := hB9.set [.slice aX6 (ts.length + 1) cX6, .slice aM9 (ts.length + 1) cM9]
    have hox10 := hox9.fram FS10 (fun b hb he => hox9.neblk hB9 (by decide) b hb he)
    have hom10 := hom9.fram FS10 (fun b hb he => hom9.neblk hB9 (by decide) b hb he)
    have F410 : Fram (fun b => b = wb ∨ (Value.slice aX ts.length cX).ownBlock = some b ∨ (Value.slice aM ts.length cM).ownBlock = some b) w4 _ := ((F47.trans (F78.mono (fun _ _ h => h.elim))).trans (FA9.mono (fun b _ h => .inr (.inr h)))).trans (FS10.mono (fun b _ h => .inl h))
    have hs7 := F47.size
    have hnm : ∀ b, (Value.slice aM9 (ts.length + 1) cM9).ownBlock = some b → (Value.slice aM ts.length cM).ownBlock = some b ∨ w4.heap.size ≤ b := by
      intro b hb
      rcases hloc with h | h
      · rw [h] at hb; exact .inl hb
      · rw [h] at hb; cases hb; exact .inr (Nat.le_trans hs7 F78.size)
    refine wl_nil (x_then (hK7 _ _ ?_))
    clear hK7 K7
    refine forget [] trivial (fun e => ?_)
    refine c_seq (fun K8 hK8 => ?_)
    refine c_reg ?_ -- region 6 law.go:102
    refine wl (ro_assign rfl) ?_
    refine wl_nil (x_then (hK8 _ _ ?_))
    clear hK8 K8
    refine c_ret (x_thenR ?_)
    refine bp_ret Tryz.results26 rfl ?_
    rw [← hVX] at hnx F410
    rw [← hVM] at hnm F410
    have hsz := b44.size
    refine ⟨rfl, _, _, _, _, T4.more J hdis hB10 hox10 hom10 hnx hnm F410, by simp; omega, b0, ?_, ?_, ?_, b44.trans' F410 ?_⟩
    · intro b hb
      rcases hnx b hb with h | h
      · exact b1 b h
      · omega
    · intro b hb
      rcases hnm b hb with h | h
      · exact b2 b h
      · omega
    · intro i b hi hb
      split at hb
      · have := hge b hb; omega
      · simp at hi; exact b3 i b (by omega) hb
    · intro b hb hx
      rcases hx with h | h | h
      · omega
      · have := b1 b h; omega
      · have := b2 b h; omega
  · try simp only [decide_eq_true_eq, decide_eq_false_iff_not, Bool.not_eq_true', Bool.not_eq_false', Bool.not_eq_eq_eq_not, Bool.not_true, Bool.not_false, beq_iff_eq, bne_iff_ne, ne_eq, beq_eq_false_iff_ne, bne_eq_false_iff_eq, gt_iff_lt, ge_iff_le, Int.not_lt, Int.not_le] at hc18
    obtain ⟨VX, VM, ts, Fs, T, hts, b0, b1, b2, b3, b4⟩ := I
    have hB := T.blk
    obtain ⟨aX, cX, hVX⟩ := T.ox.form
    obtain ⟨aM, cM, hVM⟩ := T.om.form
    have hB' := hB
    rw [hVX, hVM] at hB'
    refine c_skip (x_then (hK2 _ _ ?_))
    clear hK2 K2
    refine c_seq (fun K9 hK9 => ?_)
    refine c_seq (fun K10 hK10 => ?_)
    refine c_reg ?_ -- region 7 law.go:104
    refine wl (ro_move rfl) ?_
    refine wl (ro_nilCheck rfl) ?_
    refine wl (ro_fieldAddr (k := 0) rfl fo_62_0) ?_
    refine wl (ro_loadB rfl sc_59 (hB') rfl) ?_
    refine wl (ro_lenL rfl se_59) ?_
    refine wl (ro_cmp (r := decide (ts.length = 0)) rfl rfl (congrArg some (beqc ts.length 0))) ?_
    refine wl_nil (x_then (hK10 _ _ ?_))
    clear hK10 K10
    refine wc_cond rfl (fun hc47 => ?_) (fun hc47 => ?_)
    · try simp only [decide_eq_true_eq, decide_eq_false_iff_not, Bool.not_eq_true', Bool.not_eq_false', Bool.not_eq_eq_eq_not, Bool.not_true, Bool.not_false, beq_iff_eq, bne_iff_ne, ne_eq, beq_eq_false_iff_ne, bne_eq_false_iff_eq, gt_iff_lt, ge_iff_le, Int.not_lt, Int.not_le] at hc47
      refine c_seq (fun K11 hK11 => ?_)
      refine c_reg ?_ -- region 8 law.go:105
      refine wl (ro_assign rfl) ?_
      refine wl_nil (x_then (hK11 _ _ ?_))
      clear hK11 K11
      refine c_ret (x_thenR ?_)
      refine bp_ret Tryz.results26 rfl ?_
      exact ⟨rfl, VX, VM, ts, Fs, T, by omega, b0, b1, b2, b3, b4⟩
    · try simp only [decide_eq_true_eq, decide_eq_false_iff_not, Bool.not_eq_true', Bool.not_eq_false', Bool.not_eq_eq_eq_not, Bool.not_true, Bool.not_false, beq_iff_eq, bne_iff_ne, ne_eq, beq_eq_false_iff_ne, bne_eq_false_iff_eq, gt_iff_lt, ge_iff_le, Int.not_lt, Int.not_le] at hc47
      have hl0 : 0 < ts.length := by omega
      refine c_skip (x_then (hK9 _ _ ?_))
      clear hK9 K9
      refine forget [(0, _), (3, _)] ⟨rfl, rfl, trivial⟩ (fun e => ?_)
      refine c_seq (fun K12 hK12 => ?_)
      refine c_pi [(0, false), (1, false), (2, false), (3, false), (4, false), (5, false), (6, false), (7, true), (8, false)] (SameH w1.heap) mixed (by kernel_rfl) rfl (by kernel_rfl) (po_then (po_bp)) (rfl) ?_ -- region 9 law.go:107
      refine pi_ro rfl (fun w hS => ro_fieldAddr (k := 1) rfl fo_57_1) ?_
      refine pi_ro rfl (fun w hS => ro_loadB rfl sc_3 (Blk.of_heap hO hS) rfl) ?_
      refine pi_ro rfl (fun w hS => ro_move rfl) ?_
      refine pi_ro rfl (fun w hS => ro_nilCheck rfl) ?_
      refine pi_ro rfl (fun w hS => ro_fieldAddr (k := 0) rfl fo_62_0) ?_
      refine pi_ro rfl (fun w hS => ro_loadB rfl sc_59 (Blk.of_heap hB' hS) rfl) ?_
      refine pi_ro rfl (fun w hS => ro_lenL rfl se_59) ?_
      refine pi_call rfl rfl en_45 (pick45 (w := { w1 with drawn := w1.drawn + 1 }) (c := A) hl0 hA1 hA2) ?_
      rintro _ _ ⟨⟨i, rfl, hi⟩, rfl⟩
      refine ⟨rfl, ?_⟩
      refine pi_ro rfl (fun w hS => ro_assign rfl) ?_
      obtain ⟨tt, htt⟩ : ∃ tt, ts[i]? = some tt := ⟨_, List.getElem?_eq_getElem hi⟩
      refine gen2 (A := fun w2 => TW w2 wb VX VM ts Fs ∧ Fram none' w0 w2) (B := fun w2 => Blk w2.heap ob [.int .i64 k, .int .i64 A, .int .i64 B, .int .i64 C, S t, S t2] 57) (C := fun w2 => WP _ _ _ _ _ _ w2) ⟨T.none (Fram.drew _ _ _), b4.trans (Fram.drew _ _ _)⟩ hO ?_
      clear hO T b4 hB hB'
      rintro w1 ⟨T, b4⟩ hO
      have hB := T.blk
      obtain ⟨gx, cx, lx, hx, hGx, hcx⟩ := T.x htt
      obtain ⟨gm, cm, lm, hm, hGm, hcm⟩ := T.m htt
      rw [hx, hm] at hB
      obtain ⟨n, J⟩ := T.tw i tt htt
      have fin : ∀ w' n', JPost (Fs i) tt.1 tt.2 n' w1 w' → TWI w0 w' wb (N + 1) := fun w' n' P => TWI.up (TWI.at T hts b0 b1 b2 b3 b4 htt P) (by omega)
      refine pi_nil (x_then (hK12 _ _ ?_))
      clear hK12 K12
      refine forget [(0, _), (3, _), (7, _)] ⟨rfl, rfl, rfl, trivial⟩ (fun e => ?_)
      refine c_seq (fun K13 hK13 => ?_)
      refine c_reg ?_ -- region 10 law.go:108
      refine wl (ro_move rfl) ?_
      refine wl (ro_nilCheck rfl) ?_
      refine wl (ro_fieldAddr (k := 0) rfl fo_62_0) ?_
      refine wl (ro_loadB rfl sc_59 (hB) rfl) ?_
      refine wl (ro_move rfl) ?_
      refine wl (ro_indexAddr (et := 26) (k := 1) rfl rfl se_59 (rfl) (hi)) ?_
      refine wl (ro_loadB rfl sc_26 (hGx) (hcx)) ?_
      refine wl (ro_assign rfl) ?_
      refine wl_nil (x_then (hK13 _ _ ?_))
      clear hK13 K13
      refine forget [(0, _), (3, _), (7, _), (8, _)] ⟨rfl, rfl, rfl, rfl, trivial⟩ (fun e => ?_)
      refine c_seq (fun K14 hK14 => ?_)
      refine c_reg ?_ -- region 11 law.go:109
      refine wl (ro_move rfl) ?_
      refine wl (ro_nilCheck rfl) ?_
      refine wl (ro_fieldAddr (k := 1) rfl fo_62_1) ?_
      refine wl (ro_loadB rfl sc_60 (hB) rfl) ?_
      refine wl (ro_move rfl) ?_
      refine wl (ro_indexAddr (et := 30) (k := 1) rfl rfl se_60 (rfl) (hi)) ?_
      refine wl (ro_loadB rfl sc_30 (hGm) (hcm)) ?_
      refine wl (ro_assign rfl) ?_
      refine wl_nil (x_then (hK14 _ _ ?_))
      clear hK14 K14
      refine c_seq (fun K15 hK15 => ?_)
      refine c_seq (fun K16 hK16 => ?_)
      refine c_reg ?_ -- region 12 law.go:110
      refine wl (ro_fieldAddr (k := 0) rfl fo_57_0) ?_
      refine wl (ro_loadB rfl sc_3 (by assumption) rfl) ?_
      refine wl_nil (x_then (hK16 _ _ ?_))
      clear hK16 K16
      refine c_block ?_
      refine forget [(3, _), (8, _), (9, _), (71, _)] ⟨rfl, rfl, rfl, rfl, trivial⟩ (fun e => ?_)
      refine c_seq (fun K17 hK17 => ?_)
      refine c_reg ?_ -- region 13 law.go:111
      refine wl (ro_cmp rfl rfl rfl) ?_
      refine wl (ro_assign rfl) ?_
      refine wl_nil (x_then (hK17 _ _ ?_))
      clear hK17 K17
      refine wc_cond rfl (fun hc72 => ?_) (fun hc72 => ?_)
      · try simp only [decide_eq_true_eq, decide_eq_false_iff_not, Bool.not_eq_true', Bool.not_eq_false', Bool.not_eq_eq_eq_not, Bool.not_true, Bool.not_false, beq_iff_eq, bne_iff_ne, ne_eq, beq_eq_false_iff_ne, bne_eq_false_iff_eq, gt_iff_lt, ge_iff_le, Int.not_lt, Int.not_le] at hc72
        refine c_seq (fun K18 hK18 => ?_)
        refine c_reg ?_ -- region 14 law.go:112
        refine wl (ro_move rfl) ?_
        refine wl (ro_move rfl) ?_
        refine wl (ro_fieldAddr (k := 4) rfl fo_57_4) ?_
        refine wl (ro_loadB rfl sc_9 (hO) rfl) ?_
        refine wl_call rfl en_8 (added8 J t) ?_
        rintro _ w2 ⟨rfl, P⟩
        refine wl (ro_assign rfl) ?_
        refine wl_nil (x_then (hK18 _ _ ?_))
        clear hK18 K18
        refine c_ret (x_blkR (x_thenR ?_))
        refine bp_ret Tryz.results26 rfl ?_
        exact ⟨rfl, fin _ _ P⟩
      · try simp only [decide_eq_true_eq, decide_eq_false_iff_not, Bool.not_eq_true', Bool.not_eq_false', Bool.not_eq_eq_eq_not, Bool.not_true, Bool.not_false, beq_iff_eq, bne_iff_ne, ne_eq, beq_eq_false_iff_ne, bne_eq_false_iff_eq, gt_iff_lt, ge_iff_le, Int.not_lt, Int.not_le] at hc72
        refine c_seq (fun K19 hK19 => ?_)
        refine c_reg ?_ -- region 15 law.go:113
        refine wl (ro_cmp rfl rfl rfl) ?_
        refine wl (ro_assign rfl) ?_
        refine wl_nil (x_then (hK19 _ _ ?_))
        clear hK19 K19
        refine wc_cond rfl (fun hc79 => ?_) (fun hc79 => ?_)
        · try simp only [decide_eq_true_eq, decide_eq_false_iff_not, Bool.not_eq_true', Bool.not_eq_false', Bool.not_eq_eq_eq_not, Bool.not_true, Bool.not_false, beq_iff_eq, bne_iff_ne, ne_eq, beq_eq_false_iff_ne, bne_eq_false_iff_eq, gt_iff_lt, ge_iff_le, Int.not_lt, Int.not_le] at hc79
          refine c_seq (fun K20 hK20 => ?_)
          obtain ⟨e0, hclr⟩ := clear_both J
          refine c_reg ?_ -- region 16 law.go:114
          refine wl (ro_move rfl) ?_
          refine wl_call rfl en_46 (hclr) ?_
          rintro _ w2 ⟨rfl, hclr2⟩
          refine wl (ro_assign rfl) ?_
          refine wl_nil (x_then (hK20 _ _ ?_))
          clear hK20 K20
          refine forget [(9, _), (10, _)] ⟨rfl, rfl, trivial⟩ (fun e => ?_)
          refine c_seq (fun K21 hK21 => ?_)
          refine c_reg ?_ -- region 17 law.go:115
          refine wl (ro_move rfl) ?_
          refine wl_call rfl en_47 (hclr2) ?_
          rintro _ w3 ⟨rfl, P⟩
          refine wl (ro_assign rfl) ?_
          refine wl_nil (x_then (hK21 _ _ ?_))
          clear hK21 K21
          refine forget [(10, _), (11, _)] ⟨rfl, rfl, trivial⟩ (fun e => ?_)
          refine c_seq (fun K22 hK22 => ?_)
          refine c_reg ?_ -- region 18 law.go:116
          refine wl (ro_move rfl) ?_
          refine wl (ro_move rfl) ?_
          refine wl (ro_cmp (r := true) rfl rfl (by simp)) ?_
          refine wl (ro_assign rfl) ?_
          refine wl_nil (x_then (hK22 _ _ ?_))
          clear hK22 K22
          refine c_ret (x_blkR (x_thenR ?_))
          refine bp_ret Tryz.results26 rfl ?_
          exact ⟨rfl, fin _ _ P⟩
        · try simp only [decide_eq_true_eq, decide_eq_false_iff_not, Bool.not_eq_true', Bool.not_eq_false', Bool.not_eq_eq_eq_not, Bool.not_true, Bool.not_false, beq_iff_eq, bne_iff_ne, ne_eq, beq_eq_false_iff_ne, bne_eq_false_iff_eq, gt_iff_lt, ge_iff_le, Int.not_lt, Int.not_le] at hc79
          refine c_seq (fun K23 hK23 => ?_)
          refine c_reg ?_ -- region 19 law.go:117
          refine wl (ro_cmp rfl rfl rfl) ?_
          refine wl (ro_assign rfl) ?_
          refine wl_nil (x_then (hK23 _ _ ?_))
          clear hK23 K23
          refine wc_cond rfl (fun hc88 => ?_) (fun hc88 => ?_)
          · try simp only [decide_eq_true_eq, decide_eq_false_iff_not, Bool.not_eq_true', Bool.not_eq_false', Bool.not_eq_eq_eq_not, Bool.not_true, Bool.not_false, beq_iff_eq, bne_iff_ne, ne_eq, beq_eq_false_iff_ne, bne_eq_false_iff_eq, gt_iff_lt, ge_iff_le, Int.not_lt, Int.not_le] at hc88
            refine c_seq (fun K24 hK24 => ?_)
            refine c_reg ?_ -- region 20 law.go:118
            refine wl (ro_move rfl) ?_
            refine wl (ro_move rfl) ?_
            refine wl (ro_fieldAddr (k := 4) rfl fo_57_4) ?_
            refine wl (ro_loadB rfl sc_9 (hO) rfl) ?_
            refine wl (ro_fieldAddr (k := 2) rfl fo_57_2) ?_
            refine wl (ro_loadB rfl sc_3 (hO) rfl) ?_
            refine wl_call rfl en_9 (asked9 J t B) ?_
            rintro _ w2 ⟨rfl, n', P⟩
            refine wl (ro_assign rfl) ?_
            refine wl_nil (x_then (hK24 _ _ ?_))
            clear hK24 K24
            refine c_ret (x_blkR (x_thenR ?_))
            refine bp_ret Tryz.results26 rfl ?_
            exact ⟨rfl, fin _ _ P⟩
          · try simp only [decide_eq_true_eq, decide_eq_false_iff_not, Bool.not_eq_true', Bool.not_eq_false', Bool.not_eq_eq_eq_not, Bool.not_true, Bool.not_false, beq_iff_eq, bne_iff_ne, ne_eq, beq_eq_false_iff_ne, bne_eq_false_iff_eq, gt_iff_lt, ge_iff_le, Int.not_lt, Int.not_le] at hc88
            refine c_seq (fun K25 hK25 => ?_)
            refine c_reg ?_ -- region 21 law.go:119
            refine wl (ro_cmp rfl rfl rfl) ?_
            refine wl (ro_assign rfl) ?_
            refine wl_nil (x_then (hK25 _ _ ?_))
            clear hK25 K25
            refine wc_cond rfl (fun hc97 => ?_) (fun hc97 => ?_)
            · try simp only [decide_eq_true_eq, decide_eq_false_iff_not, Bool.not_eq_true', Bool.not_eq_false', Bool.not_eq_eq_eq_not, Bool.not_true, Bool.not_false, beq_iff_eq, bne_iff_ne, ne_eq, beq_eq_false_iff_ne, bne_eq_false_iff_eq, gt_iff_lt, ge_iff_le, Int.not_lt, Int.not_le] at hc97
              refine c_seq (fun K26 hK26 => ?_)
              refine c_reg ?_ -- region 22 law.go:120
              refine wl (ro_move rfl) ?_
              refine wl (ro_move rfl) ?_
              refine wl_call rfl en_11 (next11 J) ?_
              rintro _ w2 ⟨more, n', rfl, P, _⟩
              refine wl (ro_move rfl) ?_
              refine wl (ro_extract rfl rfl) ?_
              refine wl (ro_extract rfl rfl) ?_
              refine wl (ro_assign rfl) ?_
              refine wl (ro_assign rfl) ?_
              refine wl_nil (x_then (hK26 _ _ ?_))
              clear hK26 K26
              refine forget [(12, _)] ⟨rfl, trivial⟩ (fun e => ?_)
              refine c_seq (fun K27 hK27 => ?_)
              refine c_reg ?_ -- region 23 law.go:121
              refine wl (ro_move rfl) ?_
              refine wl (ro_assign rfl) ?_
              refine wl_nil (x_then (hK27 _ _ ?_))
              clear hK27 K27
              refine c_ret (x_blkR (x_thenR ?_))
              refine bp_ret Tryz.results26 rfl ?_
              exact ⟨rfl, fin _ _ P⟩
            · try simp only [decide_eq_true_eq, decide_eq_false_iff_not, Bool.not_eq_true', Bool.not_eq_false', Bool.not_eq_eq_eq_not, Bool.not_true, Bool.not_false, beq_iff_eq, bne_iff_ne, ne_eq, beq_eq_false_iff_ne, bne_eq_false_iff_eq, gt_iff_lt, ge_iff_le, Int.not_lt, Int.not_le] at hc97
              refine c_seq (fun K28 hK28 => ?_)
              refine c_reg ?_ -- region 24 law.go:122
              refine wl (ro_cmp rfl rfl rfl) ?_
              refine wl (ro_assign rfl) ?_
              refine wl_nil (x_then (hK28 _ _ ?_))
              clear hK28 K28
              refine wc_cond rfl (fun hc106 => ?_) (fun hc106 => ?_)
              · try simp only [decide_eq_true_eq, decide_eq_false_iff_not, Bool.not_eq_true', Bool.not_eq_false', Bool.not_eq_eq_eq_not, Bool.not_true, Bool.not_false, beq_iff_eq, bne_iff_ne, ne_eq, beq_eq_false_iff_ne, bne_eq_false_iff_eq, gt_iff_lt, ge_iff_le, Int.not_lt, Int.not_le] at hc106
                refine c_seq (fun K29 hK29 => ?_)
                obtain ⟨e0, hclr⟩ := halt_both J
                refine c_reg ?_ -- region 25 law.go:123
                refine wl (ro_move rfl) ?_
                refine wl_call rfl en_48 (hclr) ?_
                rintro _ w2 ⟨rfl, hclr2⟩
                refine wl (ro_assign rfl) ?_
                refine wl_nil (x_then (hK29 _ _ ?_))
                clear hK29 K29
                refine forget [(9, _), (14, _)] ⟨rfl, rfl, trivial⟩ (fun e => ?_)
                refine c_seq (fun K30 hK30 => ?_)
                refine c_reg ?_ -- region 26 law.go:124
                refine wl (ro_move rfl) ?_
                refine wl_call rfl en_49 (hclr2) ?_
                rintro _ w3 ⟨rfl, P⟩
                refine wl (ro_assign rfl) ?_
                refine wl_nil (x_then (hK30 _ _ ?_))
                clear hK30 K30
                refine forget [(14, _), (15, _)] ⟨rfl, rfl, trivial⟩ (fun e => ?_)
                refine c_seq (fun K31 hK31 => ?_)
                refine c_reg ?_ -- region 27 law.go:125
                refine wl (ro_move rfl) ?_
                refine wl (ro_move rfl) ?_
                refine wl (ro_cmp (r := true) rfl rfl (by simp)) ?_
                refine wl (ro_assign rfl) ?_
                refine wl_nil (x_then (hK31 _ _ ?_))
                clear hK31 K31
                refine c_ret (x_blkR (x_thenR ?_))
                refine bp_ret Tryz.results26 rfl ?_
                exact ⟨rfl, fin _ _ P⟩
              · try simp only [decide_eq_true_eq, decide_eq_false_iff_not, Bool.not_eq_true', Bool.not_eq_false', Bool.not_eq_eq_eq_not, Bool.not_true, Bool.not_false, beq_iff_eq, bne_iff_ne, ne_eq, beq_eq_false_iff_ne, bne_eq_false_iff_eq, gt_iff_lt, ge_iff_le, Int.not_lt, Int.not_le] at hc106
                refine c_seq (fun K32 hK32 => ?_)
                refine c_reg ?_ -- region 28 law.go:126
                refine wl (ro_cmp rfl rfl rfl) ?_
                refine wl (ro_assign rfl) ?_
                refine wl_nil (x_then (hK32 _ _ ?_))
                clear hK32 K32
                refine wc_cond rfl (fun hc115 => ?_) (fun hc115 => ?_)
                · try simp only [decide_eq_true_eq, decide_eq_false_iff_not, Bool.not_eq_true', Bool.not_eq_false', Bool.not_eq_eq_eq_not, Bool.not_true, Bool.not_false, beq_iff_eq, bne_iff_ne, ne_eq, beq_eq_false_iff_ne, bne_eq_false_iff_eq, gt_iff_lt, ge_iff_le, Int.not_lt, Int.not_le] at hc115
                  refine c_seq (fun K33 hK33 => ?_)
                  refine c_reg ?_ -- region 29 law.go:127
                  refine wl (ro_move rfl) ?_
                  refine wl (ro_move rfl) ?_
                  refine wl_call rfl en_10 (shown10 J) ?_
                  rintro _ w2 ⟨rfl, P⟩
                  refine wl (ro_assign rfl) ?_
                  refine wl_nil (x_then (hK33 _ _ ?_))
                  clear hK33 K33
                  refine c_ret (x_blkR (x_thenR ?_))
                  refine bp_ret Tryz.results26 rfl ?_
                  exact ⟨rfl, fin _ _ P⟩
                · try simp only [decide_eq_true_eq, decide_eq_false_iff_not, Bool.not_eq_true', Bool.not_eq_false', Bool.not_eq_eq_eq_not, Bool.not_true, Bool.not_false, beq_iff_eq, bne_iff_ne, ne_eq, beq_eq_false_iff_ne, bne_eq_false_iff_eq, gt_iff_lt, ge_iff_le, Int.not_lt, Int.not_le] at hc115
                  refine c_seq (fun K34 hK34 => ?_)
                  refine c_reg ?_ -- region 30 law.go:128
                  refine wl (ro_cmp rfl rfl rfl) ?_
                  refine wl (ro_assign rfl) ?_
                  refine wl_nil (x_then (hK34 _ _ ?_))
                  clear hK34 K34
                  refine wc_cond rfl (fun hc120 => ?_) (fun hc120 => ?_)
                  · try simp only [decide_eq_true_eq, decide_eq_false_iff_not, Bool.not_eq_true', Bool.not_eq_false', Bool.not_eq_eq_eq_not, Bool.not_true, Bool.not_false, beq_iff_eq, bne_iff_ne, ne_eq, beq_eq_false_iff_ne, bne_eq_false_iff_eq, gt_iff_lt, ge_iff_le, Int.not_lt, Int.not_le] at hc120
                    refine c_seq (fun K35 hK35 => ?_)
                    refine c_reg ?_ -- region 31 law.go:129
                    refine wl (ro_move rfl) ?_
                    refine wl_call rfl en_50 (checked50 J) ?_
                    rintro _ w2 ⟨rfl, F2⟩
                    refine wl (ro_assign rfl) ?_
                    refine wl_nil (x_then (hK35 _ _ ?_))
                    clear hK35 K35
                    refine c_ret (x_blkR (x_thenR ?_))
                    refine bp_ret Tryz.results26 rfl ?_
                    exact ⟨rfl, TWI.up (TWI.none ⟨VX, VM, ts, Fs, T, hts, b0, b1, b2, b3, b4⟩ F2) (by omega)⟩
                  · try simp only [decide_eq_true_eq, decide_eq_false_iff_not, Bool.not_eq_true', Bool.not_eq_false', Bool.not_eq_eq_eq_not, Bool.not_true, Bool.not_false, beq_iff_eq, bne_iff_ne, ne_eq, beq_eq_false_iff_ne, bne_eq_false_iff_eq, gt_iff_lt, ge_iff_le, Int.not_lt, Int.not_le] at hc120
                    refine c_skip (x_blk (x_then (hK15 _ _ ?_)))
                    clear hK15 K15
                    refine forget [] trivial (fun e => ?_)
                    refine c_seq (fun K36 hK36 => ?_)
                    refine c_reg ?_ -- region 32 law.go:131
                    refine wl (ro_assign rfl) ?_
                    refine wl_nil (x_then (hK36 _ _ ?_))
                    clear hK36 K36
                    refine c_ret ?_
                    refine bp_ret Tryz.results26 rfl ?_
                    exact ⟨rfl, TWI.up ⟨VX, VM, ts, Fs, T, hts, b0, b1, b2, b3, b4⟩ (by omega)⟩

end Go.Proofs.Qxb6500569aGreat
