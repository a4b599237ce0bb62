import Derived.Test.Qxb6500570aGreatBm
/- A new former: six rows laid in any order. -/
namespace Go.Proofs.Qxb6500570aGreat
set_option linter.unusedVariables false
set_option linter.unusedSimpArgs false

def capI (i : Nat) : Nat := [41, 24, 41, 41, 24, 288].getD i 0
def celI (i : Nat) : Nat := [369, 312, 41, 205, 48, 288].getD i 0
def tyI (i : Nat) : Nat := [189, 143, 3, 197, 201, 5].getD i 0
def opI (i : Nat) : Op := .makeSlice ([77, 78, 79, 80, 81, 58].getD i 0) (.const (.int .i64 (capI i : Int))) (.const (.int .i64 (capI i : Int)))

theorem made_len (z : Array Value) (m : Nat) (hz : 0 < z.size) : (madeCells z m).size = m := by
  unfold madeCells
  simp

theorem eoI {n : Nat} {e : Nat → Option Value} {w : World} {i : Nat} (hi : i < 6) : ∃ cs : List Value, cs.length = celI i ∧ EO Tryz.prog n e w (opI i) (.slice (some ⟨w.heap.size, 0, none⟩) (capI i) (capI i)) (w.alloc (.cells cs.toArray (tyI i))) := by
  rcases (by omega : i = 0 ∨ i = 1 ∨ i = 2 ∨ i = 3 ∨ i = 4 ∨ i = 5) with rfl | rfl | rfl | rfl | rfl | rfl
  · exact ⟨(madeCells ([.int .i64 0, .int .i64 0, .int .i64 0, .int .i64 0, .int .i64 0, .int .i64 0, .int .i64 0, .bool false, .bool false] : List Value).toArray (41 * 9)).toList, by simp [made_len, celI], eo_make (len := 41) (cap := 41) rfl rfl se_77 ze_189 (by omega) (by omega) rfl bb_189⟩
  · exact ⟨(madeCells ([.int .i64 0, .int .i64 0, .int .i64 0, .int .i64 0, .int .i64 0, .int .i64 0, .int .i64 0, .bool false, .bool false, .int .i64 0, .int .i64 0, .bool false, .bool false] : List Value).toArray (24 * 13)).toList, by simp [made_len, celI], eo_make (len := 24) (cap := 24) rfl rfl se_78 ze_143 (by omega) (by omega) rfl bb_143⟩
  · exact ⟨(madeCells ([Value.int .i64 0] : List Value).toArray (41 * 1)).toList, by simp [made_len, celI], eo_make (len := 41) (cap := 41) rfl rfl se_79 ze_3 (by omega) (by omega) rfl bb_3⟩
  · exact ⟨(madeCells ([Value.int .i64 0, Value.int .i64 0, Value.int .i64 0, Value.int .i64 0, Value.int .i64 0] : List Value).toArray (41 * 5)).toList, by simp [made_len, celI], eo_make (len := 41) (cap := 41) rfl rfl se_80 ze_197 (by omega) (by omega) rfl bb_197⟩
  · exact ⟨(madeCells ([Value.int .i64 0, Value.bool false] : List Value).toArray (24 * 2)).toList, by simp [made_len, celI], eo_make (len := 24) (cap := 24) rfl rfl se_81 ze_201 (by omega) (by omega) rfl bb_201⟩
  · exact ⟨(madeCells ([Value.int .u8 0] : List Value).toArray (288 * 1)).toList, by simp [made_len, celI], eo_make (len := 288) (cap := 288) rfl rfl se_58 ze_5 (by omega) (by omega) rfl bb_5⟩

def Six (w0 : World) (bs : Nat → Bool) (e : Nat → Option Value) (w : World) : Prop := ∃ f : Nat → Nat, Fram none' w0 w ∧
  (∀ i, i < 6 → bs i = true → e (i + 1) = some (.slice (some ⟨f i, 0, none⟩) (capI i) (capI i)) ∧ w0.heap.size ≤ f i ∧ ∃ g, FB w.heap (f i) (celI i) g (tyI i)) ∧ ∀ i j, i < 6 → j < 6 → bs i = true → bs j = true → f i = f j → i = j

theorem Six.congr {w0 : World} {bs bs' : Nat → Bool} {e : Nat → Option Value} {w : World} (h : Six w0 bs e w) (hb : ∀ i, i < 6 → bs i = bs' i) : Six w0 bs' e w := by
  obtain ⟨f, h1, h2, h3⟩ := h
  exact ⟨f, h1, fun i hi hh => h2 i hi (by rw [hb i hi]; exact hh), fun i j hi hj h4 h5 => h3 i j hi hj (by rw [hb i hi]; exact h4) (by rw [hb j hj]; exact h5)⟩

theorem Six.step {w0 : World} {bs : Nat → Bool} {e : Nat → Option Value} {w : World} (h : Six w0 bs e w) {i : Nat} (hi : i < 6) (hbi : bs i = false) {cs : List Value} (hc : cs.length = celI i) :
    Six w0 (fun k => k == i || bs k) (upd e (i + 1) (.slice (some ⟨w.heap.size, 0, none⟩) (capI i) (capI i))) (w.alloc (.cells cs.toArray (tyI i))) := by
  obtain ⟨f, h1, h2, h3⟩ := h
  have FA : Fram none' w (w.alloc (.cells cs.toArray (tyI i))) := Fram.alloc none' w _
  refine ⟨fun k => if k = i then w.heap.size else f k, h1.trans FA, ?_, ?_⟩
  · intro k hk hb
    by_cases hki : k = i
    · subst hki
      simp only [if_true]
      refine ⟨by simp [upd], h1.size, fun j => cs.getD j undef, ?_⟩
      have := Blk.new w cs (tyI k)
      rw [← hc]
      unfold FB
      rw [← cel_of cs]
      exact this
    · have hb' : bs k = true := by simpa [hki] using hb
      obtain ⟨a1, a2, g, a3⟩ := h2 k hk hb'
      simp only [hki, if_false]
      refine ⟨?_, a2, g, FA.blkN a3⟩
      rw [← a1]
      show (bif (k + 1).beq (i + 1) then _ else e (k + 1)) = e (k + 1)
      have hbq : (k + 1).beq (i + 1) = false := by
        cases h : (k + 1).beq (i + 1) with
        | false => rfl
        | true => exact absurd (Nat.eq_of_beq_eq_true h) (by omega)
      rw [hbq]
      rfl
  · intro k j hk hj hb hb' he
    by_cases hki : k = i <;> by_cases hji : j = i
    · rw [hki, hji]
    · have hb2 : bs j = true := by simpa [hji] using hb'
      obtain ⟨_, _, g, h9⟩ := h2 j hj hb2
      have := h9.lt
      simp only [hki, hji, if_true, if_false] at he
      omega
    · have hb2 : bs k = true := by simpa [hki] using hb
      obtain ⟨_, _, g, h9⟩ := h2 k hk hb2
      have := h9.lt
      simp only [hki, hji, if_true, if_false] at he
      omega
    · simp only [hki, hji, if_false] at he
      exact h3 k j hk hj (by simpa [hki] using hb) (by simpa [hji] using hb') he

theorem op_eo {P : Program} {ops : Array Oper} {Q : Exit → Act → World → Prop} {n : Nat} {e : Nat → Option Value} {ds : List Deferred} {w w1 : World} {K : Act → World → Prop} {i d : Nat} {op : Op} {ty : TypeId} {ps : String} {af : Array Edge} {v : Value}
    (hi : ops[i]? = some ⟨some d, op, ty, ps, af, none⟩) (h : EO P n e w op v w1) (k : K (Fr n (upd e d v) ds) w1) : wpOp P ops Q i K (Fr n e ds) w := by
  unfold wpOp
  rw [hi]
  simp only [Region.wanted, if_true]
  refine .inl ?_
  unfold Oper.wp
  rw [h ds]
  simp only [Oper.upon, put_some]
  exact k

theorem six_any {ops : Array Oper} {Q : Exit → Act → World → Prop} {w0 : World} {ds : List Deferred} (hops : ∀ i, i < 6 → ∃ ty ps af, ops[i]? = some ⟨some (i + 1), opI i, ty, ps, af, none⟩)
    (hready : ∀ b0 b1 b2 b3 b4 b5 : Bool, Region.ready .any ops #[b0, b1, b2, b3, b4, b5, false, false, false] = if (b0 && b1 && b2 && b3 && b4 && b5) = true then [6] else (List.range 6).filter (fun i => !([b0, b1, b2, b3, b4, b5].getD i true)))
    (fin : ∀ e w, Six w0 (fun _ => true) e w → wpAny Tryz.prog .any ops Q 3 #[true, true, true, true, true, true, false, false, false] (Fr 9 e ds) w) :
    ∀ (k : Nat) (b0 b1 b2 b3 b4 b5 : Bool) (e : Nat → Option Value) (w : World), ([b0, b1, b2, b3, b4, b5].filter (fun b => !b)).length = k → Six w0 (fun i => [b0, b1, b2, b3, b4, b5].getD i true) e w → wpAny Tryz.prog .any ops Q (k + 3) #[b0, b1, b2, b3, b4, b5, false, false, false] (Fr 9 e ds) w
  | 0, b0, b1, b2, b3, b4, b5, e, w, hk, h => by
    obtain ⟨rfl, rfl, rfl, rfl, rfl, rfl⟩ : b0 = true ∧ b1 = true ∧ b2 = true ∧ b3 = true ∧ b4 = true ∧ b5 = true := by
      revert hk; cases b0 <;> cases b1 <;> cases b2 <;> cases b3 <;> cases b4 <;> cases b5 <;> simp
    refine fin e w (h.congr ?_)
    intro i hi
    rcases (by omega : i = 0 ∨ i = 1 ∨ i = 2 ∨ i = 3 ∨ i = 4 ∨ i = 5) with rfl | rfl | rfl | rfl | rfl | rfl <;> rfl
  | k + 1, b0, b1, b2, b3, b4, b5, e, w, hk, h => by
    have hne : ¬ (b0 && b1 && b2 && b3 && b4 && b5) = true := by
      revert hk; cases b0 <;> cases b1 <;> cases b2 <;> cases b3 <;> cases b4 <;> cases b5 <;> simp
    have hr := hready b0 b1 b2 b3 b4 b5
    rw [if_neg hne] at hr
    refine wpAny_all hr ?_ ?_
    · revert hne; cases b0 <;> cases b1 <;> cases b2 <;> cases b3 <;> cases b4 <;> cases b5 <;> decide
    · intro i hi
      obtain ⟨hi6, hbi⟩ : i < 6 ∧ [b0, b1, b2, b3, b4, b5].getD i true = false := by
        have := List.mem_filter.1 hi
        exact ⟨List.mem_range.1 this.1, by simpa using this.2⟩
      obtain ⟨ty, ps, af, hop⟩ := hops i hi6
      obtain ⟨cs, hcs, hE⟩ := eoI (n := 9) (e := e) (w := w) hi6
      refine op_eo hop hE ?_
      have hS := h.step hi6 hbi hcs
      clear hop hE hcs hi
      rcases (by omega : i = 0 ∨ i = 1 ∨ i = 2 ∨ i = 3 ∨ i = 4 ∨ i = 5) with rfl | rfl | rfl | rfl | rfl | rfl
      · have hb : b0 = false := hbi
        subst hb
        exact six_any hops hready fin k true b1 b2 b3 b4 b5 _ _ (by simpa using hk) (hS.congr (by intro i hi; rcases (by omega : i = 0 ∨ i = 1 ∨ i = 2 ∨ i = 3 ∨ i = 4 ∨ i = 5) with rfl | rfl | rfl | rfl | rfl | rfl <;> rfl))
      · have hb : b1 = false := hbi
        subst hb
        exact six_any hops hready fin k b0 true b2 b3 b4 b5 _ _ (by revert hk; cases b0 <;> simp <;> omega) (hS.congr (by intro i hi; rcases (by omega : i = 0 ∨ i = 1 ∨ i = 2 ∨ i = 3 ∨ i = 4 ∨ i = 5) with rfl | rfl | rfl | rfl | rfl | rfl <;> rfl))
      · have hb : b2 = false := hbi
        subst hb
        exact six_any hops hready fin k b0 b1 true b3 b4 b5 _ _ (by revert hk; cases b0 <;> cases b1 <;> simp <;> omega) (hS.congr (by intro i hi; rcases (by omega : i = 0 ∨ i = 1 ∨ i = 2 ∨ i = 3 ∨ i = 4 ∨ i = 5) with rfl | rfl | rfl | rfl | rfl | rfl <;> rfl))
      · have hb : b3 = false := hbi
        subst hb
        exact six_any hops hready fin k b0 b1 b2 true b4 b5 _ _ (by revert hk; cases b0 <;> cases b1 <;> cases b2 <;> simp <;> omega) (hS.congr (by intro i hi; rcases (by omega : i = 0 ∨ i = 1 ∨ i = 2 ∨ i = 3 ∨ i = 4 ∨ i = 5) with rfl | rfl | rfl | rfl | rfl | rfl <;> rfl))
      · have hb : b4 = false := hbi
        subst hb
        exact six_any hops hready fin k b0 b1 b2 b3 true b5 _ _ (by revert hk; cases b0 <;> cases b1 <;> cases b2 <;> cases b3 <;> simp <;> omega) (hS.congr (by intro i hi; rcases (by omega : i = 0 ∨ i = 1 ∨ i = 2 ∨ i = 3 ∨ i = 4 ∨ i = 5) with rfl | rfl | rfl | rfl | rfl | rfl <;> rfl))
      · have hb : b5 = false := hbi
        subst hb
        exact six_any hops hready fin k b0 b1 b2 b3 b4 true _ _ (by revert hk; cases b0 <;> cases b1 <;> cases b2 <;> cases b3 <;> cases b4 <;> simp <;> omega) (hS.congr (by intro i hi; rcases (by omega : i = 0 ∨ i = 1 ∨ i = 2 ∨ i = 3 ∨ i = 4 ∨ i = 5) with rfl | rfl | rfl | rfl | rfl | rfl <;> rfl))

theorem New23 {w : World} : Ret Tryz.prog 23 [] w (fun r w' => ∃ B : FB7, r = ptr B.f ∧ FBo B ∧ FmR w' B ∧ (w.heap.size ≤ B.f ∧ w.heap.size ≤ B.t ∧ w.heap.size ≤ B.a ∧ w.heap.size ≤ B.v ∧ w.heap.size ≤ B.o ∧ w.heap.size ≤ B.n ∧ w.heap.size ≤ B.u) ∧ Fram none' w w') := by
  refine ret_of Tryz.func23 rfl Tryz.ntmps23 rfl ?_
  refine c_seq (fun K1 hK1 => ?_)
  refine c_reg ?_ -- region 0 form.go:33
  refine wl (ro_assign rfl) ?_
  refine wl_nil (x_then (hK1 _ _ ?_))
  clear hK1 K1
  refine forget [] trivial (fun e => ?_)
  refine c_seq (fun K2 hK2 => ?_)
  refine ⟨wp_region_any mixed (six_any (w0 := w) (fun i hi => ?_) ?_ ?_ 6 false false false false false false _ _ rfl ⟨fun _ => 0, Fram.drew _ _ _, fun i hi h => ?_, fun i j hi hj h => ?_⟩)⟩
  · rcases (by omega : i = 0 ∨ i = 1 ∨ i = 2 ∨ i = 3 ∨ i = 4 ∨ i = 5) with rfl | rfl | rfl | rfl | rfl | rfl <;> exact ⟨_, _, _, rfl⟩
  · intro b0 b1 b2 b3 b4 b5
    cases b0 <;> cases b1 <;> cases b2 <;> cases b3 <;> cases b4 <;> cases b5 <;> kernel_rfl
  · intro e w1 hS
    obtain ⟨f, F1, hf, hinj⟩ := hS
    obtain ⟨a0, g0, q0, A0⟩ := hf 0 (by omega) rfl
    obtain ⟨a1, g1, q1, A1⟩ := hf 1 (by omega) rfl
    obtain ⟨a2, g2, q2, A2⟩ := hf 2 (by omega) rfl
    obtain ⟨a3, g3, q3, A3⟩ := hf 3 (by omega) rfl
    obtain ⟨a4, g4, q4, A4⟩ := hf 4 (by omega) rfl
    obtain ⟨a5, g5, q5, A5⟩ := hf 5 (by omega) rfl
    have hne : ∀ i j, i < 6 → j < 6 → i ≠ j → f i ≠ f j := fun i j hi hj hij he => hij (hinj i j hi hj rfl rfl he)
    refine forgetK [(1, sl (f 0) 41), (2, sl (f 1) 24), (3, sl (f 2) 41), (4, sl (f 3) 41), (5, sl (f 4) 24), (6, sl (f 5) 288)] ⟨a0, a1, a2, a3, a4, a5, trivial⟩ (fun e => ?_)
    refine wpAny_of_held (S := fun _ => True) _ _ _ _ (pi_sound (by kernel_rfl) (po_then po_bp) [(6, false), (7, true), (8, false)] 3 _ _ _ (by decide) (by kernel_rfl) trivial (WP.out ?_))
    refine pi_ro rfl (fun w hS => ro_build rfl bld_83_0_4_6_8_14_15) ?_
    refine pi_eo rfl (eo_box rfl rfl) trivial ?_
    refine pi_ro rfl (fun w hS => ro_assign rfl) ?_
    refine pi_nil (x_then (hK2 _ _ ?_))
    clear hK2 K2
    refine c_ret ?_
    refine bp_ret Tryz.results23 rfl ?_
    have l0 := A0.lt
    have l1 := A1.lt
    have l2 := A2.lt
    have l3 := A3.lt
    have l4 := A4.lt
    have l5 := A5.lt
    have hsz := F1.size
    have FA : Fram none' w1 (w1.alloc (.cells (fml ⟨w1.heap.size, f 0, f 1, f 2, f 3, f 4, f 5⟩ 0 0 0 0 0 0 false false 0 0 0).toArray 83)) := Fram.alloc none' w1 _
    have n01 := hne 0 1 (by omega) (by omega) (by omega)
    have n02 := hne 0 2 (by omega) (by omega) (by omega)
    have n03 := hne 0 3 (by omega) (by omega) (by omega)
    have n04 := hne 0 4 (by omega) (by omega) (by omega)
    have n05 := hne 0 5 (by omega) (by omega) (by omega)
    have n12 := hne 1 2 (by omega) (by omega) (by omega)
    have n13 := hne 1 3 (by omega) (by omega) (by omega)
    have n14 := hne 1 4 (by omega) (by omega) (by omega)
    have n15 := hne 1 5 (by omega) (by omega) (by omega)
    have n23 := hne 2 3 (by omega) (by omega) (by omega)
    have n24 := hne 2 4 (by omega) (by omega) (by omega)
    have n25 := hne 2 5 (by omega) (by omega) (by omega)
    have n34 := hne 3 4 (by omega) (by omega) (by omega)
    have n35 := hne 3 5 (by omega) (by omega) (by omega)
    have n45 := hne 4 5 (by omega) (by omega) (by omega)
    refine ⟨⟨w1.heap.size, f 0, f 1, f 2, f 3, f 4, f 5⟩, rfl, ⟨⟨by show w1.heap.size ≠ f 0; omega, by show w1.heap.size ≠ f 1; omega, by show w1.heap.size ≠ f 2; omega, by show w1.heap.size ≠ f 3; omega, by show w1.heap.size ≠ f 4; omega, by show w1.heap.size ≠ f 5; omega⟩, ⟨n01, n02, n03, n04, n05⟩, ⟨n12, n13, n14, n15⟩, ⟨n23, n24, n25⟩, ⟨n34, n35⟩, n45⟩, ⟨0, 0, 0, 0, 0, false, false, q0, q1, q2, q3, q4, q5, Blk.new w1 (fml ⟨w1.heap.size, f 0, f 1, f 2, f 3, f 4, f 5⟩ 0 0 0 0 0 0 false false 0 0 0) 83, FA.blkN A0, FA.blkN A1, FA.blkN A2, FA.blkN A3, FA.blkN A4, FA.blkN A5⟩, ⟨hsz, g0, g1, g2, g3, g4, g5⟩, F1.trans FA⟩
  · exfalso; revert h; rcases (by omega : i = 0 ∨ i = 1 ∨ i = 2 ∨ i = 3 ∨ i = 4 ∨ i = 5) with rfl | rfl | rfl | rfl | rfl | rfl <;> decide
  · exfalso; revert h; rcases (by omega : i = 0 ∨ i = 1 ∨ i = 2 ∨ i = 3 ∨ i = 4 ∨ i = 5) with rfl | rfl | rfl | rfl | rfl | rfl <;> decide

end Go.Proofs.Qxb6500570aGreat
