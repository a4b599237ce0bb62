import Derived.Test.Qxb6500569aGreatXe
/- A new heap: six rows laid in any order. -/
namespace Go.Proofs.Qxb6500569aGreat
set_option linter.unusedVariables false
set_option linter.unusedSimpArgs false

def capI (i : Nat) : Nat := [64, 64, 128, 256, 64, 26].getD i 0
def celI (i : Nat) : Nat := [64, 64, 128, 256, 64, 78].getD i 0
def tyI (i : Nat) : Nat := [177, 21, 5, 21, 21, 198].getD i 0
def opI (i : Nat) : Op := .makeSlice ([64, 65, 66, 65, 65, 67].getD i 0) (.const (.int .i64 0)) (.const (.int .i64 (capI i : Int)))

theorem made_len (z : Array Value) (m : Nat) (hz : 0 < z.size) : (madeCells z m).size = m := by
  unfold madeCells
  simp

theorem eoI {n : Nat} {e : Nat → Option Value} {w : World} {i : Nat} (hi : i < 6) : ∃ cs : List Value, cs.length = celI i ∧ EO Tryz.prog n e w (opI i) (.slice (some ⟨w.heap.size, 0, none⟩) 0 (capI i)) (w.alloc (.cells cs.toArray (tyI i))) := by
  rcases (by omega : i = 0 ∨ i = 1 ∨ i = 2 ∨ i = 3 ∨ i = 4 ∨ i = 5) with rfl | rfl | rfl | rfl | rfl | rfl
  · exact ⟨(madeCells [Value.int .i8 0].toArray (64 * 1)).toList, by simp [made_len, celI], eo_make (len := 0) (cap := 64) rfl rfl se_64 ze_177 (by omega) (by omega) rfl bb_177⟩
  · exact ⟨(madeCells [Value.int .i32 0].toArray (64 * 1)).toList, by simp [made_len, celI], eo_make (len := 0) (cap := 64) rfl rfl se_65 ze_21 (by omega) (by omega) rfl bb_21⟩
  · exact ⟨(madeCells [Value.int .u8 0].toArray (128 * 1)).toList, by simp [made_len, celI], eo_make (len := 0) (cap := 128) rfl rfl se_66 ze_5 (by omega) (by omega) rfl bb_5⟩
  · exact ⟨(madeCells [Value.int .i32 0].toArray (256 * 1)).toList, by simp [made_len, celI], eo_make (len := 0) (cap := 256) rfl rfl se_65 ze_21 (by omega) (by omega) rfl bb_21⟩
  · exact ⟨(madeCells [Value.int .i32 0].toArray (64 * 1)).toList, by simp [made_len, celI], eo_make (len := 0) (cap := 64) rfl rfl se_65 ze_21 (by omega) (by omega) rfl bb_21⟩
  · exact ⟨(madeCells [Value.int .i32 0, Value.int .i32 0, Value.int .i32 0].toArray (26 * 3)).toList, by simp [made_len, celI], eo_make (len := 0) (cap := 26) rfl rfl se_67 ze_198 (by omega) (by omega) rfl bb_198⟩

def Six (w0 : World) (bs : Nat → Bool) (e : Nat → Option Value) (w : World) : Prop := ∃ f : Nat → Nat, Fram none' w0 w ∧
  (∀ i, i < 6 → bs i = true → e (i + 1) = some (.slice (some ⟨f i, 0, none⟩) 0 (capI i)) ∧ w0.heap.size ≤ f i ∧ Arr w.heap (f i) [] (celI i) (tyI i)) ∧ ∀ i j, i < 6 → j < 6 → bs i = true → bs j = true → f i = f j → i = j

theorem Six.congr {w0 : World} {bs bs' : Nat → Bool} {e : Nat → Option Value} {w : World} (h : Six w0 bs e w) (hb : ∀ i, i < 6 → bs i = bs' i) : Six w0 bs' e w := by
  obtain ⟨f, h1, h2, h3⟩ := h
  exact ⟨f, h1, fun i hi hh => h2 i hi (by rw [hb i hi]; exact hh), fun i j hi hj h4 h5 => h3 i j hi hj (by rw [hb i hi]; exact h4) (by rw [hb j hj]; exact h5)⟩

theorem Six.step {w0 : World} {bs : Nat → Bool} {e : Nat → Option Value} {w : World} (h : Six w0 bs e w) {i : Nat} (hi : i < 6) (hbi : bs i = false) {cs : List Value} (hc : cs.length = celI i) :
    Six w0 (fun k => k == i || bs k) (upd e (i + 1) (.slice (some ⟨w.heap.size, 0, none⟩) 0 (capI i))) (w.alloc (.cells cs.toArray (tyI i))) := by
  obtain ⟨f, h1, h2, h3⟩ := h
  have FA : Fram none' w (w.alloc (.cells cs.toArray (tyI i))) := Fram.alloc none' w _
  refine ⟨fun k => if k = i then w.heap.size else f k, h1.trans FA, ?_, ?_⟩
  · intro k hk hb
    by_cases hki : k = i
    · subst hki
      simp only [if_true]
      refine ⟨by simp [upd], h1.size, cs, ?_, by simpa using hc⟩
      exact Blk.new w cs (tyI k)
    · have hb' : bs k = true := by simpa [hki] using hb
      obtain ⟨a1, a2, a3⟩ := h2 k hk hb'
      simp only [hki, if_false]
      refine ⟨?_, a2, a3.fram FA (fun h => h)⟩
      rw [← a1]
      show (bif (k + 1).beq (i + 1) then _ else e (k + 1)) = e (k + 1)
      have hbq : (k + 1).beq (i + 1) = false := by
        cases h : (k + 1).beq (i + 1) with
        | false => rfl
        | true => exact absurd (Nat.eq_of_beq_eq_true h) (by omega)
      rw [hbq]
      rfl
  · intro k j hk hj hb hb' he
    by_cases hki : k = i <;> by_cases hji : j = i
    · rw [hki, hji]
    · have hb2 : bs j = true := by simpa [hji] using hb'
      have := (h2 j hj hb2).2.2.lt
      simp only [hki, hji, if_true, if_false] at he
      omega
    · have hb2 : bs k = true := by simpa [hki] using hb
      have := (h2 k hk hb2).2.2.lt
      simp only [hki, hji, if_true, if_false] at he
      omega
    · simp only [hki, hji, if_false] at he
      exact h3 k j hk hj (by simpa [hki] using hb) (by simpa [hji] using hb') he

theorem op_eo {P : Program} {ops : Array Oper} {Q : Exit → Act → World → Prop} {n : Nat} {e : Nat → Option Value} {ds : List Deferred} {w w1 : World} {K : Act → World → Prop} {i d : Nat} {op : Op} {ty : TypeId} {ps : String} {af : Array Edge} {v : Value}
    (hi : ops[i]? = some ⟨some d, op, ty, ps, af, none⟩) (h : EO P n e w op v w1) (k : K (Fr n (upd e d v) ds) w1) : wpOp P ops Q i K (Fr n e ds) w := by
  unfold wpOp
  rw [hi]
  simp only [Region.wanted, if_true]
  refine .inl ?_
  unfold Oper.wp
  rw [h ds]
  simp only [Oper.upon, put_some]
  exact k

theorem six_any {ops : Array Oper} {Q : Exit → Act → World → Prop} {w0 : World} {ds : List Deferred} (hops : ∀ i, i < 6 → ∃ ty ps af, ops[i]? = some ⟨some (i + 1), opI i, ty, ps, af, none⟩)
    (hready : ∀ b0 b1 b2 b3 b4 b5 : Bool, Region.ready .any ops #[b0, b1, b2, b3, b4, b5, false, false, false] = if (b0 && b1 && b2 && b3 && b4 && b5) = true then [6] else (List.range 6).filter (fun i => !([b0, b1, b2, b3, b4, b5].getD i true)))
    (fin : ∀ e w, Six w0 (fun _ => true) e w → wpAny Tryz.prog .any ops Q 3 #[true, true, true, true, true, true, false, false, false] (Fr 9 e ds) w) :
    ∀ (k : Nat) (b0 b1 b2 b3 b4 b5 : Bool) (e : Nat → Option Value) (w : World), ([b0, b1, b2, b3, b4, b5].filter (fun b => !b)).length = k → Six w0 (fun i => [b0, b1, b2, b3, b4, b5].getD i true) e w → wpAny Tryz.prog .any ops Q (k + 3) #[b0, b1, b2, b3, b4, b5, false, false, false] (Fr 9 e ds) w
  | 0, b0, b1, b2, b3, b4, b5, e, w, hk, h => by
    obtain ⟨rfl, rfl, rfl, rfl, rfl, rfl⟩ : b0 = true ∧ b1 = true ∧ b2 = true ∧ b3 = true ∧ b4 = true ∧ b5 = true := by
      revert hk; cases b0 <;> cases b1 <;> cases b2 <;> cases b3 <;> cases b4 <;> cases b5 <;> simp
    refine fin e w (h.congr ?_)
    intro i hi
    rcases (by omega : i = 0 ∨ i = 1 ∨ i = 2 ∨ i = 3 ∨ i = 4 ∨ i = 5) with rfl | rfl | rfl | rfl | rfl | rfl <;> rfl
  | k + 1, b0, b1, b2, b3, b4, b5, e, w, hk, h => by
    have hne : ¬ (b0 && b1 && b2 && b3 && b4 && b5) = true := by
      revert hk; cases b0 <;> cases b1 <;> cases b2 <;> cases b3 <;> cases b4 <;> cases b5 <;> simp
    have hr := hready b0 b1 b2 b3 b4 b5
    rw [if_neg hne] at hr
    refine wpAny_all hr ?_ ?_
    · revert hne; cases b0 <;> cases b1 <;> cases b2 <;> cases b3 <;> cases b4 <;> cases b5 <;> decide
    · intro i hi
      obtain ⟨hi6, hbi⟩ : i < 6 ∧ [b0, b1, b2, b3, b4, b5].getD i true = false := by
        have := List.mem_filter.1 hi
        exact ⟨List.mem_range.1 this.1, by simpa using this.2⟩
      obtain ⟨ty, ps, af, hop⟩ := hops i hi6
      obtain ⟨cs, hcs, hE⟩ := eoI (n := 9) (e := e) (w := w) hi6
      refine op_eo hop hE ?_
      have hS := h.step hi6 hbi hcs
      clear hop hE hcs hi
      rcases (by omega : i = 0 ∨ i = 1 ∨ i = 2 ∨ i = 3 ∨ i = 4 ∨ i = 5) with rfl | rfl | rfl | rfl | rfl | rfl
      · have hb : b0 = false := hbi
        subst hb
        exact six_any hops hready fin k true b1 b2 b3 b4 b5 _ _ (by simpa using hk) (hS.congr (by intro i hi; rcases (by omega : i = 0 ∨ i = 1 ∨ i = 2 ∨ i = 3 ∨ i = 4 ∨ i = 5) with rfl | rfl | rfl | rfl | rfl | rfl <;> rfl))
      · have hb : b1 = false := hbi
        subst hb
        exact six_any hops hready fin k b0 true b2 b3 b4 b5 _ _ (by revert hk; cases b0 <;> simp <;> omega) (hS.congr (by intro i hi; rcases (by omega : i = 0 ∨ i = 1 ∨ i = 2 ∨ i = 3 ∨ i = 4 ∨ i = 5) with rfl | rfl | rfl | rfl | rfl | rfl <;> rfl))
      · have hb : b2 = false := hbi
        subst hb
        exact six_any hops hready fin k b0 b1 true b3 b4 b5 _ _ (by revert hk; cases b0 <;> cases b1 <;> simp <;> omega) (hS.congr (by intro i hi; rcases (by omega : i = 0 ∨ i = 1 ∨ i = 2 ∨ i = 3 ∨ i = 4 ∨ i = 5) with rfl | rfl | rfl | rfl | rfl | rfl <;> rfl))
      · have hb : b3 = false := hbi
        subst hb
        exact six_any hops hready fin k b0 b1 b2 true b4 b5 _ _ (by revert hk; cases b0 <;> cases b1 <;> cases b2 <;> simp <;> omega) (hS.congr (by intro i hi; rcases (by omega : i = 0 ∨ i = 1 ∨ i = 2 ∨ i = 3 ∨ i = 4 ∨ i = 5) with rfl | rfl | rfl | rfl | rfl | rfl <;> rfl))
      · have hb : b4 = false := hbi
        subst hb
        exact six_any hops hready fin k b0 b1 b2 b3 true b5 _ _ (by revert hk; cases b0 <;> cases b1 <;> cases b2 <;> cases b3 <;> simp <;> omega) (hS.congr (by intro i hi; rcases (by omega : i = 0 ∨ i = 1 ∨ i = 2 ∨ i = 3 ∨ i = 4 ∨ i = 5) with rfl | rfl | rfl | rfl | rfl | rfl <;> rfl))
      · have hb : b5 = false := hbi
        subst hb
        exact six_any hops hready fin k b0 b1 b2 b3 b4 true _ _ (by revert hk; cases b0 <;> cases b1 <;> cases b2 <;> cases b3 <;> cases b4 <;> simp <;> omega) (hS.congr (by intro i hi; rcases (by omega : i = 0 ∨ i = 1 ∨ i = 2 ∨ i = 3 ∨ i = 4 ∨ i = 5) with rfl | rfl | rfl | rfl | rfl | rfl <;> rfl))

theorem New14 {w : World} : Ret Tryz.prog 14 [] w (fun r w' => ∃ L : HL, r = ptr L.h ∧ HpR w'.heap L [] [] ∧ (∀ b, L.foot b → w.heap.size ≤ b) ∧ Fram none' w w') := by
  refine ret_of Tryz.func14 rfl Tryz.ntmps14 rfl ?_
  refine c_seq (fun K1 hK1 => ?_)
  refine c_reg ?_ -- region 0 heap.go:30
  refine wl (ro_assign rfl) ?_
  refine wl_nil (x_then (hK1 _ _ ?_))
  clear hK1 K1
  refine forget [] trivial (fun e => ?_)
  refine c_seq (fun K2 hK2 => ?_)
  refine ⟨wp_region_any mixed (six_any (w0 := w) (fun i hi => ?_) ?_ ?_ 6 false false false false false false _ _ rfl ⟨fun _ => 0, Fram.drew _ _ _, fun i hi h => ?_, fun i j hi hj h => ?_⟩)⟩
  · rcases (by omega : i = 0 ∨ i = 1 ∨ i = 2 ∨ i = 3 ∨ i = 4 ∨ i = 5) with rfl | rfl | rfl | rfl | rfl | rfl <;> exact ⟨_, _, _, rfl⟩
  · intro b0 b1 b2 b3 b4 b5
    cases b0 <;> cases b1 <;> cases b2 <;> cases b3 <;> cases b4 <;> cases b5 <;> kernel_rfl
  · intro e w1 hS
    obtain ⟨f, F1, hf, hinj⟩ := hS
    obtain ⟨a0, g0, A0⟩ := hf 0 (by omega) rfl
    obtain ⟨a1, g1, A1⟩ := hf 1 (by omega) rfl
    obtain ⟨a2, g2, A2⟩ := hf 2 (by omega) rfl
    obtain ⟨a3, g3, A3⟩ := hf 3 (by omega) rfl
    obtain ⟨a4, g4, A4⟩ := hf 4 (by omega) rfl
    obtain ⟨a5, g5, A5⟩ := hf 5 (by omega) rfl
    have hne : ∀ i j, i < 6 → j < 6 → i ≠ j → f i ≠ f j := fun i j hi hj hij he => hij (hinj i j hi hj rfl rfl he)
    refine forgetK [(1, .slice (some ⟨f 0, 0, none⟩) 0 64), (2, .slice (some ⟨f 1, 0, none⟩) 0 64), (3, .slice (some ⟨f 2, 0, none⟩) 0 128), (4, .slice (some ⟨f 3, 0, none⟩) 0 256), (5, .slice (some ⟨f 4, 0, none⟩) 0 64), (6, .slice (some ⟨f 5, 0, none⟩) 0 26)] ⟨a0, a1, a2, a3, a4, a5, trivial⟩ (fun e => ?_)
    refine wpAny_of_held (S := fun _ => True) _ _ _ _ (pi_sound (by kernel_rfl) (po_then po_bp) [(6, false), (7, true), (8, false)] 3 _ _ _ (by decide) (by kernel_rfl) trivial (WP.out ?_))
    refine pi_ro rfl (fun w hS => ro_build rfl bld_69_0_1_2_3_4_5) ?_
    refine pi_eo rfl (eo_box rfl rfl) trivial ?_
    refine pi_ro rfl (fun w hS => ro_assign rfl) ?_
    refine pi_nil (x_then (hK2 _ _ ?_))
    clear hK2 K2
    refine c_ret ?_
    refine bp_ret Tryz.results14 rfl ?_
    have l0 := A0.lt
    have l1 := A1.lt
    have l2 := A2.lt
    have l3 := A3.lt
    have l4 := A4.lt
    have l5 := A5.lt
    have hsz := F1.size
    have FA : Fram none' w1 (w1.alloc (.cells [.slice (some ⟨f 0, 0, none⟩) 0 64, .slice (some ⟨f 1, 0, none⟩) 0 64, .slice (some ⟨f 2, 0, none⟩) 0 128, .slice (some ⟨f 3, 0, none⟩) 0 256, .slice (some ⟨f 4, 0, none⟩) 0 64, .slice (some ⟨f 5, 0, none⟩) 0 26].toArray 69)) := Fram.alloc none' w1 _
    have n01 := hne 0 1 (by omega) (by omega) (by omega)
    have n02 := hne 0 2 (by omega) (by omega) (by omega)
    have n03 := hne 0 3 (by omega) (by omega) (by omega)
    have n04 := hne 0 4 (by omega) (by omega) (by omega)
    have n05 := hne 0 5 (by omega) (by omega) (by omega)
    have n12 := hne 1 2 (by omega) (by omega) (by omega)
    have n13 := hne 1 3 (by omega) (by omega) (by omega)
    have n14 := hne 1 4 (by omega) (by omega) (by omega)
    have n15 := hne 1 5 (by omega) (by omega) (by omega)
    have n23 := hne 2 3 (by omega) (by omega) (by omega)
    have n24 := hne 2 4 (by omega) (by omega) (by omega)
    have n25 := hne 2 5 (by omega) (by omega) (by omega)
    have n34 := hne 3 4 (by omega) (by omega) (by omega)
    have n35 := hne 3 5 (by omega) (by omega) (by omega)
    have n45 := hne 4 5 (by omega) (by omega) (by omega)
    refine ⟨⟨w1.heap.size, f 0, f 1, f 2, f 3, f 4, f 5⟩, rfl, ⟨RH.empty, ⟨Blk.new w1 [.slice (some ⟨f 0, 0, none⟩) 0 64, .slice (some ⟨f 1, 0, none⟩) 0 64, .slice (some ⟨f 2, 0, none⟩) 0 128, .slice (some ⟨f 3, 0, none⟩) 0 256, .slice (some ⟨f 4, 0, none⟩) 0 64, .slice (some ⟨f 5, 0, none⟩) 0 26] 69, A0.fram FA (fun h => h), A1.fram FA (fun h => h), A2.fram FA (fun h => h), A3.fram FA (fun h => h), A4.fram FA (fun h => h), A5.fram FA (fun h => h), ?_⟩, wf_empty, rfl, rfl⟩, ?_, F1.trans FA⟩
    · simp only [HL.list, List.nodup_cons, List.mem_cons, List.not_mem_nil, or_false, not_or, not_false_eq_true, List.nodup_nil, and_true]
      omega
    · intro b hb
      simp only [HL.foot, HL.list, List.mem_cons, List.not_mem_nil, or_false] at hb
      omega
  · exfalso; revert h; rcases (by omega : i = 0 ∨ i = 1 ∨ i = 2 ∨ i = 3 ∨ i = 4 ∨ i = 5) with rfl | rfl | rfl | rfl | rfl | rfl <;> decide
  · exfalso; revert h; rcases (by omega : i = 0 ∨ i = 1 ∨ i = 2 ∨ i = 3 ∨ i = 4 ∨ i = 5) with rfl | rfl | rfl | rfl | rfl | rfl <;> decide

end Go.Proofs.Qxb6500569aGreat
