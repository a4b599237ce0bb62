import Derived.Test.Qxb6500568aGreatDoorDg
/- The real tables: migrate. -/
namespace Go.Proofs.Qxb6500568aGreatDoor
open Ieee
set_option linter.unusedVariables false
set_option linter.unusedSimpArgs false

theorem filt_le {p q : Nat → Bool} (h : ∀ x, q x = true → p x = true) : ∀ l : List Nat, (l.filter q).length ≤ (l.filter p).length
  | [] => by simp
  | x :: l => by
    have := filt_le h l
    by_cases hq : q x = true
    · simp [hq, h x hq]; exact this
    · by_cases hp : p x = true
      · simp [hq, hp]; omega
      · simp [hq, hp]; exact this
theorem filt_lt {p q : Nat → Bool} (h : ∀ x, q x = true → p x = true) : ∀ {l : List Nat} {b : Nat}, b ∈ l → p b = true → q b = false → (l.filter q).length < (l.filter p).length
  | x :: l, b, hb, h1, h2 => by
    have hle := filt_le h l
    rcases List.mem_cons.1 hb with rfl | hb
    · simp [h1, h2]; omega
    · have := filt_lt h hb h1 h2
      by_cases hq : q x = true
      · simp [hq, h x hq]; exact this
      · by_cases hp : p x = true
        · simp [hq, hp]; omega
        · simp [hq, hp]; exact this
/-- Stamps not yet seen. -/
def uns (bs : List Nat) (seen : Array Nat) : Nat := (bs.filter fun b => decide (b ∉ seen)).length
theorem uns_lt {bs : List Nat} {seen : Array Nat} {b : Nat} (hb : b ∈ bs) (hn : b ∉ seen) : uns bs (seen.push b) < uns bs seen := by
  unfold uns
  refine filt_lt (fun x hx => ?_) hb (by simpa using hn) (by simp)
  simp at hx ⊢
  exact hx.1
/-- The sweep's cells so far. -/
structure SwI (R : RT) (l : List (Nat × Nat)) (bs : List Nat) (seen : Array Nat) (F : Nat → Nat) : Prop where
  a : ∀ i, F i = 0 ∨ ∃ p, F i = p + 1 ∧ R.nums (fInt i) = some p ∧ R.arr.length < i ∧ i ≤ 32
  b : ∀ (j b k p : Nat), l[j]? = some (k, p) → bs[j]? = some b → b ∈ seen → ∀ i, R.arr.length < i → i ≤ 32 → k = fInt i → F i = p + 1
theorem SwI.step {R : RT} {l : List (Nat × Nat)} {bs : List Nat} {seen : Array Nat} {F : Nat → Nat} (h : SwI R l bs seen F) (hl : ∀ a p, R.nums a = some p ↔ (a, p) ∈ l) {j b k p : Nat} (hj : l[j]? = some (k, p)) (hb : bs[j]? = some b) (hnd : bs.Nodup) (hk : W64 k) :
    (∀ i : Int, toI k = some i → (R.arr.length : Int) < i → i ≤ 32 → SwI R l bs (seen.push b) (fun x => if x = i.toNat then p + 1 else F x)) ∧ ((∀ i : Int, toI k = some i → ¬ ((R.arr.length : Int) < i ∧ i ≤ 32)) → SwI R l bs (seen.push b) F) := by
  have hm : R.nums k = some p := (hl k p).2 (List.mem_of_getElem? hj)
  have same : ∀ (j' b' k' p' : Nat), l[j']? = some (k', p') → bs[j']? = some b' → b' ∈ seen.push b → b' ∈ seen ∨ (k' = k ∧ p' = p) := fun j' b' k' p' h1 h2 h3 => by
    rcases Array.mem_push.1 h3 with h3 | h3
    · exact .inl h3
    · right
      subst h3
      have e : j' = j := by
        exact (List.getElem?_inj (List.getElem?_eq_some_iff.1 h2).1 hnd).1 (by rw [h2, hb])
      subst e
      rw [hj] at h1
      simp at h1
      exact ⟨h1.1.symm, h1.2.symm⟩
  constructor
  · intro i hi h1 h2
    have hki : k = fInt i.toNat := toI_pos hk hi (by omega)
    constructor
    · intro x
      by_cases hx : x = i.toNat
      · subst hx
        exact .inr ⟨p, if_pos rfl, by rw [← hki]; exact hm, by omega, by omega⟩
      · simp only [if_neg hx]; exact h.a x
    · intro j' b' k' p' e1 e2 e3 x hx1 hx2 hkx
      rcases same j' b' k' p' e1 e2 e3 with q | ⟨rfl, rfl⟩
      · by_cases hx : x = i.toNat
        · subst hx
          have := (hl k' p').2 (List.mem_of_getElem? e1)
          rw [hkx, ← hki, hm] at this
          simp at this
          simp [this]
        · simp only [if_neg hx]; exact h.b j' b' k' p' e1 e2 q x hx1 hx2 hkx
      · have : x = i.toNat := by
          rw [hkx, toI_fInt x (by omega)] at hi
          simp at hi; omega
        simp [this]
  · intro hno
    refine ⟨h.a, fun j' b' k' p' e1 e2 e3 x hx1 hx2 hkx => ?_⟩
    rcases same j' b' k' p' e1 e2 e3 with q | ⟨rfl, rfl⟩
    · exact h.b j' b' k' p' e1 e2 q x hx1 hx2 hkx
    · exfalso
      exact hno x (by rw [hkx]; exact toI_fInt x (by omega)) (by omega)
theorem SwI.done {R : RT} {l : List (Nat × Nat)} {bs : List Nat} {seen : Array Nat} {F : Nat → Nat} (h : SwI R l bs seen F) (hl : ∀ a p, R.nums a = some p ↔ (a, p) ∈ l) (hlen : bs.length = l.length) (hall : ∀ b ∈ bs, b ∈ seen) {i : Nat} (h1 : R.arr.length < i) (h2 : i ≤ 32) : F i = match R.nums (fInt i) with | some p => p + 1 | none => 0 := by
  cases hn : R.nums (fInt i) with
  | some p =>
    obtain ⟨j, hj⟩ := List.getElem?_of_mem ((hl _ _).1 hn)
    have hjl := (List.getElem?_eq_some_iff.1 hj).1
    obtain ⟨b, hb⟩ : ∃ b, bs[j]? = some b := ⟨_, List.getElem?_eq_getElem (by omega)⟩
    exact h.b j b _ p hj hb (hall b (List.mem_of_getElem? hb)) i h1 h2 rfl
  | none =>
    rcases h.a i with q | ⟨p, _, q, _⟩
    · exact q
    · rw [hn] at q; cases q
def tbG (ab : Nat) (ow : Nat → Nat) (tag : Nat) : Nat → Prop := fun b => b = ab ∨ (tag + 1 ≤ ow b ∧ ow b < tag + 3)
set_option maxHeartbeats 8000000 in
theorem migrate148 {w : World} {ow : Nat → Nat} {ab o tag xb : Nat} {l : List Value} {t : TM} {np V C : Value} (hX0 : Blk w.heap xb [np, V, C] 75) (hA0 : Blk w.heap ab l 251) (hl : (l.drop o).take 6 = tmc t) (hT : TV w ow tag t) (hJ : TJ t.R) (hab : ∀ b, tag ≤ ow b → ow b < tag + 5 → b < w.heap.size → b ≠ ab) (hxt : ¬ (tag ≤ ow xb ∧ ow xb < tag + 5)) :
    Ret Tryz.prog 148 [ptr xb, ptrAt ab o] w (fun r w' => ∃ t' ow', t'.R.ord = t.R.ord ∧ TI t'.R ∧ TV w' ow' tag t' ∧ Blk w'.heap ab (rowS l o (tmc t')) 251 ∧ Xt w ow ow' ∧ Fram (tbF ab ow tag) w w') := by
  have hF : Fram none' w w := Fram.refl _ _
  have hX := hX0
  have hA := hA0
  have hAl := hA.lt
  have hXl := hX.lt
  have hol := row_len hl rfl (by omega)
  obtain ⟨mp, hmp, hnd, hmf⟩ := hT.n.ex
  obtain ⟨bs, clk, hC0⟩ := hmp.toC
  have hal := hJ.alen
  have hmnl := hT.n.lt
  have hbl : bs.length = mp.length := by have := hC0.len; simpa using this
  have hnb : ∀ k p, t.R.nums k = some p → W64 k ∧ p < 32 := fun k p h => by
    obtain ⟨⟨v, hv⟩, _⟩ := (hJ.numI k p).1 h
    have h1 := (List.getElem?_eq_some_iff.1 hv).1
    have h2 := hJ.ok.len
    exact ⟨(hJ.ok.key p _ _ hv).2.2.2.2.2, by omega⟩
  obtain ⟨a, cap, hva⟩ := hT.a.form
  refine ret_of Tryz.func148 rfl Tryz.ntmps148 rfl ?_
  refine c_seq (fun K1 hK1 => ?_)
  refine c_seq (fun K2 hK2 => ?_)
  refine c_reg ?_ -- region 0 index.go:83
  refine wl (ro_move rfl) ?_
  refine wl (ro_nilCheck rfl) ?_
  refine wl (ro_fieldAddr (k := 2) rfl fo_251_2) ?_
  refine wl (ro_loadB rfl sc_248 (hA) ((row_cell3 (j := 2) hl rfl))) ?_
  refine wl (ro_lenM (kt := 117) (et := 21) rfl (by kernel_rfl) hmp) ?_
  refine wl (ro_cmp rfl rfl rfl) ?_
  refine wl_nil (x_then (hK2 _ _ ?_))
  clear hK2 K2
  refine wc_cond rfl (fun hc16 => ?_) (fun hc16 => ?_)
  · try simp only [decide_eq_true_eq, decide_eq_false_iff_not, Bool.not_eq_true', Bool.not_eq_false', Bool.not_eq_eq_eq_not, Bool.not_true, Bool.not_false, beq_iff_eq, bne_iff_ne, ne_eq, beq_eq_false_iff_ne, bne_eq_false_iff_eq, gt_iff_lt, ge_iff_le, Int.not_lt, Int.not_le] at hc16
    have hnil : mp = [] := by simpa using hc16
    refine c_ret (x_thenR ?_)
    refine bp_ret Tryz.results148 rfl ?_
    exact ⟨t, ow, rfl, hJ.end (fun _ => by
      cases hq : t.R.nums (fInt (t.R.arr.length + 1)) with
      | none => rfl
      | some p => have := (hmf _ _).1 hq; rw [hnil] at this; cases this), hT, by unfold rowS; rw [← row_split hl]; exact hA, Xt.refl _ _, hF.wide⟩
  · try simp only [decide_eq_true_eq, decide_eq_false_iff_not, Bool.not_eq_true', Bool.not_eq_false', Bool.not_eq_eq_eq_not, Bool.not_true, Bool.not_false, beq_iff_eq, bne_iff_ne, ne_eq, beq_eq_false_iff_ne, bne_eq_false_iff_eq, gt_iff_lt, ge_iff_le, Int.not_lt, Int.not_le] at hc16
    refine c_skip (x_then (hK1 _ _ ?_))
    clear hK1 K1
    refine forget [(0, _), (1, _)] ⟨rfl, rfl, trivial⟩ (fun e => ?_)
    refine c_seq (fun K3 hK3 => ?_)
    refine c_reg ?_ -- region 1 index.go:86
    refine wl_new (ze_328) (fun b4 w1 hbb4 h4 F1 => ?_)
    have hbsb4 := Nat.le_trans hF.size hbb4
    have hnexbb4 : xb < b4 := Nat.lt_of_lt_of_le hX.lt hbb4
    have hneabb4 : ab < b4 := Nat.lt_of_lt_of_le hA.lt hbb4
    replace hF := hF.thenDrew.thenN F1
    replace hX := F1.blkN hX
    replace hA := F1.blkN hA
    refine wl_nil (x_then (hK3 _ _ ?_))
    clear hK3 K3
    refine c_seq (fun K4 hK4 => ?_)
    refine c_seq (fun K5 hK5 => ?_)
    refine c_reg ?_ -- region 2 index.go:87
    refine wl (ro_move rfl) ?_
    refine wl (ro_nilCheck rfl) ?_
    refine wl (ro_fieldAddr (k := 2) rfl fo_251_2) ?_
    refine wl (ro_loadB rfl sc_248 (hA) ((row_cell3 (j := 2) hl rfl))) ?_
    refine wle (eo_range (kt := 117) (et := 21) rfl (by kernel_rfl) (hC0.fram hF (fun h => h))) ?_
    have hsz0 := hF.size
    have G1 : Fram none' w1 (w1.alloc (.mapIter (some t.mn) clk #[] clk)) := Fram.alloc _ _ _
    have hI0 : ItAt (w1.alloc (.mapIter (some t.mn) clk #[] clk)).heap w1.heap.size t.mn clk #[] clk := heap_alloc_new w1 _
    have hb4l := h4.lt
    replace hF := hF.thenN G1
    replace h4 := G1.blkN h4
    refine wl_nil (x_then (hK5 _ _ ?_))
    clear hK5 K5
    refine c_block ?_
    -- loop@r3: live slots [0, 1, 4, 21]
    refine c_loopG (fun n a' w' => ∃ seen F ri, n = uns bs seen ∧ SwI t.R mp bs seen F ∧ ItAt w'.heap ri t.mn clk seen clk ∧ w.heap.size ≤ ri ∧ ri ≠ b4 ∧ Blk w'.heap b4 (cel 33 (fun i => i32c (F i))) 328 ∧ Fram none' w w' ∧ ∃ e, a' = Fr 97 (upds e [(0, ptr xb), (1, ptrAt ab o), (4, ptr b4), (21, ptr ri)]) []) (uns bs #[]) ⟨#[], fun _ => 0, w1.heap.size, rfl, ⟨fun i => .inl rfl, fun j b k p _ _ h => by simp at h⟩, hI0, by omega, by omega, h4, hF, kp _ ⟨rfl, rfl, rfl, rfl, trivial⟩⟩ ?_
    clear h4 hF hX hA hI0 G1
    rintro n a' u1 ⟨seen, F, ri, rfl, hSw, hIt, hri, hrib, h4, hF, e, rfl⟩
    have hX := hF.blkN hX0
    have hA := hF.blkN hA0
    have hC := hC0.fram hF (fun h => h)
    refine c_seq (fun K6 hK6 => ?_)
    refine c_reg ?_ -- region 3 index.go:87
    refine wl_next rfl hC hIt (fun hall => ?_) (fun j k v bb u2 hj hbj hns hIt2 G2 => ?_)
    · skip
      have hdn := fun i h1 h2 => hSw.done hmf hbl hall (i := i) h1 h2
      refine wl (ro_extract rfl rfl) ?_
      refine wl_nil (x_then (hK6 _ _ ?_))
      clear hK6 K6
      refine forget [(0, _), (1, _), (4, _), (21, _), (23, _)] ⟨rfl, rfl, rfl, rfl, rfl, trivial⟩ (fun e => ?_)
      refine c_seq (fun K7 hK7 => ?_)
      refine wc_condF rfl ?_
      refine c_exit (x_thenX (x_thenX (x_blkX (x_then (hK4 _ _ ?_)))))
      clear hK7 K7 hK4 K4
      refine forget [(1, _), (4, _)] ⟨rfl, rfl, trivial⟩ (fun e => ?_)
      refine c_seq (fun K8 hK8 => ?_)
      refine c_reg ?_ -- region 8 index.go:93
      refine wl (ro_move rfl) ?_
      refine wl (ro_nilCheck rfl) ?_
      refine wl (ro_fieldAddr (k := 1) rfl fo_251_1) ?_
      refine wl (ro_loadB rfl sc_247 (hA) ((row_cell3 (j := 1) hl (by show some t.va = _; rw [hva])))) ?_
      refine wl (ro_lenL rfl se_247) ?_
      refine wl (ro_arith rfl rfl rfl (Go.IntWalk.i64_in _ (by omega))) ?_
      refine wl (ro_assign rfl) ?_
      refine wl_nil (x_then (hK8 _ _ ?_))
      clear hK8 K8
      refine c_block ?_
      -- loop@r9: live slots [1, 4, 9]
      have hFw : Fram (tbF ab ow tag) w u1 := hF.wide
      have hA1 : Blk u1.heap ab (rowS l o (tmc t)) 251 := by unfold rowS; rw [← row_split hl]; exact hA
      refine c_loopG (fun n a' w' => ∃ t2 ow2, n = 33 - t2.R.arr.length ∧ t2.R.ord = t.R.ord ∧ t2.vo = t.vo ∧ TJ t2.R ∧ t.R.arr.length ≤ t2.R.arr.length ∧ (∀ i, t2.R.arr.length < i → i ≤ 32 → t2.R.nums (fInt i) = t.R.nums (fInt i)) ∧ TV w' ow2 tag t2 ∧ Xt w ow ow2 ∧ Blk w'.heap ab (rowS l o (tmc t2)) 251 ∧ Blk w'.heap b4 (cel 33 (fun i => i32c (F i))) 328 ∧ Fram (tbF ab ow tag) w w' ∧ ∃ e, a' = Fr 97 (upds e [(1, ptrAt ab o), (4, ptr b4), (9, i64c (t2.R.arr.length + 1))]) []) (33 - t.R.arr.length) ⟨t, ow, rfl, rfl, rfl, hJ, Nat.le_refl _, fun _ _ _ => rfl, hT.farN hF, Xt.refl _ _, hA1, h4, hFw, kp _ ⟨rfl, rfl, rfl, trivial⟩⟩ ?_
      clear hA hX h4 hF hA1 hFw
      rintro n a' u1 ⟨t2, ow2, rfl, hord, hvoe, hJ2, hle, hsm, hT2, hE2, hA, h4, hF, e, rfl⟩
      have hl2 : ((rowS l o (tmc t2)).drop o).take 6 = tmc t2 := row_back (by omega) rfl
      have hal2 := hJ2.alen
      have hzw := hF.size
      refine c_seq (fun K9 hK9 => ?_)
      refine c_seq (fun K10 hK10 => ?_)
      refine c_reg ?_ -- region 9 index.go:93
      refine wl (ro_move rfl) ?_
      refine wl (ro_cmp rfl rfl rfl) ?_
      refine wl_fork rfl (fun hg62 => ?_) (fun hg62 => ?_)
      · try simp only [decide_eq_true_eq, decide_eq_false_iff_not, Bool.not_eq_true', Bool.not_eq_false', Bool.not_eq_eq_eq_not, Bool.not_true, Bool.not_false, beq_iff_eq, bne_iff_ne, ne_eq, beq_eq_false_iff_ne, bne_eq_false_iff_eq, gt_iff_lt, ge_iff_le, Int.not_lt, Int.not_le] at hg62
        refine wlg_yes rfl (ro_move rfl) ?_
        refine wlg_yes rfl (ro_indexAddrA (et := 21) (k := 1) rfl rfl ar_328 (rfl) ((by omega))) ?_
        refine wlg_yes rfl (ro_loadB rfl sc_21 (h4) ((cel_at (by omega) (k := t2.R.arr.length + 1) (by omega) rfl))) ?_
        refine wlg_yes rfl (ro_cmp rfl rfl rfl) ?_
        refine wl (ro_pick rfl rfl rfl) ?_
        refine wl_nil (x_then (hK10 _ _ ?_))
        clear hK10 K10
        refine wc_cond rfl (fun hc67 => ?_) (fun hc67 => ?_)
        · try simp only [decide_eq_true_eq, decide_eq_false_iff_not, Bool.not_eq_true', Bool.not_eq_false', Bool.not_eq_eq_eq_not, Bool.not_true, Bool.not_false, beq_iff_eq, bne_iff_ne, ne_eq, beq_eq_false_iff_ne, bne_eq_false_iff_eq, gt_iff_lt, ge_iff_le, Int.not_lt, Int.not_le] at hc67
          have hF1 := hdn (t2.R.arr.length + 1) (by omega) (by omega)
          obtain ⟨p, hpn⟩ : ∃ p, t.R.nums (fInt (t2.R.arr.length + 1)) = some p := by
            cases hq : t.R.nums (fInt (t2.R.arr.length + 1)) with
            | none => rw [hq] at hF1; exfalso; rw [hF1] at hc67; exact hc67 rfl
            | some p => exact ⟨p, rfl⟩
          rw [hpn] at hF1
          replace hF1 : F (t2.R.arr.length + 1) = p + 1 := hF1
          have hpn2 : t2.R.nums (fInt (t2.R.arr.length + 1)) = some p := by rw [hsm _ (by omega) (by omega)]; exact hpn
          obtain ⟨_, hp32⟩ := hnb _ p hpn
          obtain ⟨⟨v, hv⟩, hno⟩ := (hJ2.numI _ p).1 hpn2
          obtain ⟨g, capo, lo, hvo, hO, k1, k2, k3, k4, k5⟩ := hT2.o.at enc_len hv
          have hpl := (List.getElem?_eq_some_iff.1 hv).1
          obtain ⟨a2, cap2, hva2⟩ := hT2.a.form
          have hAl1 := hA.lt
          have hW : Fram (fun b => b = ab ∨ b = t2.mn ∨ own1 t2.va b) u1 u1 := Fram.refl _ _
          have hnab := hT2.n.blk_ne hA
          have hnb4 := hT2.n.blk_ne h4
          have hmab : tbF ab ow tag ab := .inl rfl
          have hmn2 : tbF ab ow tag t2.mn ∨ w.heap.size ≤ t2.mn := by
            rcases Nat.lt_or_ge t2.mn w.heap.size with q | q
            · have := hE2 t2.mn q; rw [hT2.nt] at this; exact .inl (.inr (by omega))
            · exact .inr q
          have hva3 : ∀ b, own1 t2.va b → b ≠ ab ∧ b ≠ b4 ∧ b ≠ t2.mn ∧ (tbF ab ow tag b ∨ w.heap.size ≤ b) := fun b hb => by
            have ht := hT2.a.t b hb
            have hbl := hT2.a.o.lt hb
            refine ⟨fun h => ?_, fun h => ?_, fun h => ?_, ?_⟩
            · subst h; exact (hT2.a.o.neblk hA (by decide)) b hb rfl
            · subst h; exact (hT2.a.o.neblk h4 (by decide)) b hb rfl
            · subst h; rw [hT2.nt] at ht; omega
            · rcases Nat.lt_or_ge b w.heap.size with q | q
              · have := hE2 b q; exact .inl (.inr (by omega))
              · exact .inr q
          refine c_skip (x_then (hK9 _ _ ?_))
          clear hK9 K9
          refine forget [(1, _), (4, _), (9, _), (63, _), (64, _), (65, _), (66, _)] ⟨rfl, rfl, rfl, rfl, rfl, rfl, rfl, trivial⟩ (fun e => ?_)
          refine c_seq (fun K11 hK11 => ?_)
          refine c_block ?_
          refine c_seq (fun K12 hK12 => ?_)
          refine c_reg ?_ -- region 11 index.go:94
          refine wl (ro_move rfl) ?_
          refine wl (ro_indexAddrA (et := 21) (k := 1) rfl rfl ar_328 rfl (by omega)) ?_
          refine wl (ro_loadB rfl sc_21 (h4) ((cel_at (v := i32c (p + 1)) (by omega) (k := t2.R.arr.length + 1) (by omega) (by rw [hF1])))) ?_
          refine wl (ro_arith (r := (p : Int)) rfl rfl (congrArg some (by omega)) (Go.IntWalk.i32_in _ (by omega))) ?_
          refine wl (ro_assign rfl) ?_
          refine wl_nil (x_then (hK12 _ _ ?_))
          clear hK12 K12
          refine forget [(1, _), (4, _), (9, _), (10, _), (63, _), (64, _), (65, _), (66, _)] ⟨rfl, rfl, rfl, rfl, rfl, rfl, rfl, rfl, trivial⟩ (fun e => ?_)
          refine c_seq (fun K13 hK13 => ?_)
          refine c_piL9 13 [(0, false), (1, false), (2, false), (3, false), (4, false), (5, false), (6, false), (7, false), (8, false), (9, false), (10, false), (11, false), (12, false)] (SameH _) mixed (by kernel_rfl) rfl (by kernel_rfl) (po_then (po_blk (po_then (po_then (po_blk (po_bp)))))) (sameH_now _ _) ?_ -- region 12 index.go:95
          refine ql_ro rfl (fun w hS => ro_move rfl) ?_
          refine ql_ro rfl (fun w hS => ro_nilCheck rfl) ?_
          refine ql_ro rfl (fun w hS => ro_fieldAddr (k := 2) rfl fo_251_2) ?_
          refine ql_ro rfl (fun w hS => ro_loadB rfl sc_248 (Blk.of_heap hA hS) ((row_cell3 (j := 2) hl2 rfl))) ?_
          refine ql_ro rfl (fun w hS => ro_move rfl) ?_
          refine ql_ro rfl (fun w hS => ro_nilCheck rfl) ?_
          refine ql_ro rfl (fun w hS => ro_fieldAddr (k := 0) rfl fo_251_0) ?_
          refine ql_ro rfl (fun w hS => ro_loadB rfl sc_246 (Blk.of_heap hA hS) ((row_cell3 (j := 0) hl2 (by show some t2.vo = _; rw [hvo])))) ?_
          refine ql_ro rfl (fun w hS => ro_move rfl) ?_
          refine ql_ro rfl (fun w hS => ro_indexAddr (et := 263) (k := 6) rfl rfl se_246 rfl (by omega)) ?_
          refine ql_ro rfl (fun w hS => ro_fieldAddr (k := 0) rfl fo_263_0) ?_
          refine ql_ro rfl (fun w hS => ro_fieldAddr (k := 1) rfl fo_119_1) ?_
          refine ql_ro rfl (fun w hS => ro_loadB rfl sc_117 (Blk.of_heap hO hS) ((row_cell3 (j := 1) (k5 p _ hv) rfl))) ?_
          refine ql_mfDel (et := 21) (vv := i32c) (f := t2.R.nums) (a := fInt (t2.R.arr.length + 1)) rfl keyU248 rfl rfl (by kernel_rfl) hT2.n ?_
          intro u2 hN2 G2
          replace hA := G2.blkO hA (Ne.symm hnab)
          replace h4 := G2.blkO h4 (Ne.symm hnb4)
          replace hF := hF.thenDrew.thenO G2 hmn2
          replace hW := hW.thenDrew.thenO G2 (.inl (.inr (.inl rfl)))
          have hz2 : u1.heap.size ≤ u2.heap.size := G2.size
          have hW2 : Fram (one t2.mn) u1 u2 := (Fram.drew _ u1 _).trans G2
          have hva4 : Own u2.heap t2.va 21 1 t2.R.arr.length (t2.R.arr.map i32c) := hT2.a.o.fram hW2 (fun b hb => (hva3 b hb).2.2.1)
          refine x_then (hK13 _ _ ?_)
          clear hK13 K13
          refine c_reg ?_ -- region 13 index.go:96
          refine wl (ro_move rfl) ?_
          refine wl (ro_move rfl) ?_
          refine wl (ro_nilCheck rfl) ?_
          refine wl (ro_fieldAddr (k := 1) rfl fo_251_1) ?_
          refine wl (ro_loadB rfl sc_247 (hA) ((row_cell3 (j := 1) hl2 (by show some t2.va = _; rfl)))) ?_
          refine wl (ro_move rfl) ?_
          refine wl_bsapp (t := 247) (et := 21) (k := 1) (cs := [i32c p]) rfl rfl rfl rfl se_247 zx_21 by_21 rfl rfl rfl (by simp [Value.oneCell', i32c]) hva4 (by omega) (by omega) ?_
          intro v' u3 hon G3 hnb3
          obtain ⟨a3, cap3, rfl⟩ := hon.form
          replace hA := G3.blkF hA (fun h => (hva3 _ h).1 rfl)
          replace h4 := G3.blkF h4 (fun h => (hva3 _ h).2.1 rfl)
          replace hF := hF.trans' G3 (fun k hk h => by rcases (hva3 k h).2.2.2 with q | q; exact q; omega)
          replace hW := hW.trans (G3.mono (fun b _ h => .inr (.inr h)))
          replace hN2 := hN2.fram G3 (fun h => (hva3 _ h).2.2.1 rfl)
          have hz3 := G3.size
          have hwm : ab = ab ∨ ab = t2.mn ∨ own1 t2.va ab := .inl rfl
          skip
          refine wl (ro_nilCheck rfl) ?_
          refine wl (ro_fieldAddr (k := 1) rfl fo_251_1) ?_
          refine wl_put rfl rfl rfl sz_247 hA ((by have := row_len hl2 rfl (by omega); omega)) ((row_set2 (l := l) (k := 6) (j := 1) (by omega) rfl (by omega))) (fun w2 hA F2 => ?_)
          replace hF := hF.thenDrew.thenO F2 (by first | exact .inr (by omega) | exact .inl rfl | exact .inl (by assumption) | assumption)
          replace h4 := F2.blkO h4 (by first | (simp only [ne_eq, (Blk.ne_ty hO hA (by decide)), not_false_eq_true]; done) | omega)
          replace hW := hW.thenDrew.thenO F2 (by first | exact .inr (by omega) | exact .inl rfl | exact .inl (by assumption) | assumption)
          replace hN2 := hN2.framO F2 hnab
          have hG4 := (F2)
          refine wl_nil (x_blk (x_then (hK11 _ _ ?_)))
          clear hK11 K11
          refine c_reg ?_ -- region 10 index.go:93
          refine wl (ro_move rfl) ?_
          refine wl (ro_arith rfl rfl rfl (Go.IntWalk.i64_in _ (by omega))) ?_
          refine wl (ro_assign rfl) ?_
          refine wl_nil (x_then ?_)
          have hlen3 : (t2.R.arr ++ [p]).length = t2.R.arr.length + 1 := by simp
          have hx2 : Xt u1 ow2 (nw ow2 u2.heap.size (tag + 1)) := Xt.nw hz2
          have hnw : ∀ b, ow2 b = tag ∨ ow2 b = tag + 3 ∨ ow2 b = tag + 4 → b < u1.heap.size → ¬ (b = ab ∨ b = t2.mn ∨ own1 t2.va b) := fun b h1 h2 h3 => by
            rcases h3 with h3 | h3 | h3
            · subst h3
              rcases Nat.lt_or_ge b w.heap.size with q | q
              · have e1 := hE2 b q
                exact hab b (by omega) (by omega) q rfl
              · omega
            · subst h3; rw [hT2.nt] at h1; omega
            · have := hT2.a.t b h3; omega
          refine ⟨33 - (t2.R.arr.length + 1), by omega, { t2 with va := .slice a3 (t2.R.arr.length + 1) cap3, R := migV t2.R p }, nw ow2 u2.heap.size (tag + 1), by show _ = 33 - (t2.R.arr ++ [p]).length; rw [hlen3], hord, hvoe, hJ2.mig hpn2 (by omega), by show _ ≤ (t2.R.arr ++ [p]).length; omega, fun i h1 h2 => ?_, ⟨?_, ?_, hN2, ?_, ?_, ?_, ?_, ?_⟩, hE2.trans hzw hx2, hA, h4, hF, kp _ ⟨rfl, rfl, ?_, trivial⟩⟩
          · replace h1 : (t2.R.arr ++ [p]).length < i := h1
            show (if fInt i = fInt (t2.R.arr.length + 1) then none else t2.R.nums (fInt i)) = _
            rw [if_neg (fun h => by have := fInt_small i (by omega) _ (by omega) h; omega)]
            exact hsm i (by omega) h2
          · exact hT2.o.far hW (fun b hb hl => hnw b (.inl hb) hl) hx2
          · show OwT _ _ _ _ 21 1 (t2.R.arr ++ [p]).length ((t2.R.arr ++ [p]).map i32c)
            rw [hlen3, List.map_append]
            have := (hT2.a.far hW2 (ow' := ow2) (fun b hb hl h => by rw [show b = t2.mn from h, hT2.nt] at hb; omega) (Xt.refl _ _)).grow hon hnb3 hz3
            refine this.far hG4 (fun b hb hl h => ?_) (Xt.refl _ _)
            rw [show b = ab from h, nw_old (by omega)] at hb
            exact hab ab (by have := hE2 ab hAl; omega) (by have := hE2 ab hAl; omega) hAl rfl
          · exact hT2.s.fram hW (hnw _ (.inr (.inl hT2.st)) hT2.s.lt)
          · exact hT2.r.fram hW (hnw _ (.inr (.inr hT2.rt)) hT2.r.lt)
          · rw [hx2 _ hT2.n.lt]; exact hT2.nt
          · rw [hx2 _ hT2.s.lt]; exact hT2.st
          · rw [hx2 _ hT2.r.lt]; exact hT2.rt
          · show some (Value.int .i64 _) = some (i64c ((t2.R.arr ++ [p]).length + 1))
            rw [hlen3]; rfl
        · try simp only [decide_eq_true_eq, decide_eq_false_iff_not, Bool.not_eq_true', Bool.not_eq_false', Bool.not_eq_eq_eq_not, Bool.not_true, Bool.not_false, beq_iff_eq, bne_iff_ne, ne_eq, beq_eq_false_iff_ne, bne_eq_false_iff_eq, gt_iff_lt, ge_iff_le, Int.not_lt, Int.not_le] at hc67
          refine c_exit (x_thenX (x_thenX (x_blkX ?_)))
          refine bp_end Tryz.results148 rfl ?_
          refine ⟨t2, ow2, hord, hJ2.end (fun hlt => ?_), hT2, hA, hE2, hF⟩
          have hF1 := hdn (t2.R.arr.length + 1) (by omega) (by omega)
          rw [hsm _ (by omega) (by omega)]
          cases hq : t.R.nums (fInt (t2.R.arr.length + 1)) with
          | none => rfl
          | some p => rw [hq] at hF1; exfalso; replace hF1 : F (t2.R.arr.length + 1) = p + 1 := hF1; rw [hF1] at hc67; omega
      · try simp only [decide_eq_true_eq, decide_eq_false_iff_not, Bool.not_eq_true', Bool.not_eq_false', Bool.not_eq_eq_eq_not, Bool.not_true, Bool.not_false, beq_iff_eq, bne_iff_ne, ne_eq, beq_eq_false_iff_ne, bne_eq_false_iff_eq, gt_iff_lt, ge_iff_le, Int.not_lt, Int.not_le] at hg62
        refine wlg_no rfl ?_
        refine wlg_no rfl ?_
        refine wlg_no rfl ?_
        refine wlg_no rfl ?_
        refine wl (ro_pick rfl rfl rfl) ?_
        refine wl_nil (x_then (hK10 _ _ ?_))
        clear hK10 K10
        refine wc_condF rfl ?_
        refine c_exit (x_thenX (x_thenX (x_blkX ?_)))
        refine bp_end Tryz.results148 rfl ?_
        exact ⟨t2, ow2, hord, hJ2.end (fun hlt => by omega), hT2, hA, hE2, hF⟩
    · skip
      obtain ⟨p, hjp, rfl⟩ : ∃ p, mp[j]? = some (k, p) ∧ v = i32c p := by
        rw [List.getElem?_map] at hj
        cases hq : mp[j]? with
        | none => rw [hq] at hj; cases hj
        | some q => rw [hq] at hj; simp at hj; exact ⟨q.2, by rw [← hj.1], hj.2.symm⟩
      have hkn := (hmf k p).2 (List.mem_of_getElem? hjp)
      obtain ⟨hk64, hp32⟩ := hnb k p hkn
      have hst := hSw.step hmf hjp hbj hC0.nd hk64
      replace hX := hX.fram G2 (fun h => by have : xb = ri := h; omega)
      replace hA := hA.fram G2 (fun h => by have : ab = ri := h; omega)
      replace h4 := h4.fram G2 (fun h => by have : b4 = ri := h; omega)
      replace hC := hC.fram G2 (fun h => by have : t.mn = ri := h; omega)
      replace hF := hF.trans' G2 (fun k hk h => by have : k = ri := h; omega)
      have hun := uns_lt (List.mem_of_getElem? hbj) hns
      refine wl (ro_extract rfl rfl) ?_
      refine wl_nil (x_then (hK6 _ _ ?_))
      clear hK6 K6
      refine forget [(0, _), (1, _), (4, _), (21, _), (23, _)] ⟨rfl, rfl, rfl, rfl, rfl, trivial⟩ (fun e => ?_)
      refine c_seq (fun K14 hK14 => ?_)
      refine wc_condT rfl ?_
      refine c_skip (x_then (hK14 _ _ ?_))
      clear hK14 K14
      refine c_block ?_
      refine forget [(0, _), (1, _), (4, _), (21, _)] ⟨rfl, rfl, rfl, rfl, trivial⟩ (fun e => ?_)
      refine c_seq (fun K15 hK15 => ?_)
      refine c_reg ?_ -- region 4 index.go:87
      refine wl (ro_entry rfl hC hIt2 hj hbj) ?_
      refine wl (ro_extract rfl rfl) ?_
      refine wl (ro_extract rfl rfl) ?_
      refine wl (ro_assign rfl) ?_
      refine wl (ro_assign rfl) ?_
      refine wl_nil (x_then (hK15 _ _ ?_))
      clear hK15 K15
      refine forget [(0, _), (1, _), (4, _), (5, _), (6, _), (21, _)] ⟨rfl, rfl, rfl, rfl, rfl, rfl, trivial⟩ (fun e => ?_)
      refine c_seq (fun K16 hK16 => ?_)
      refine c_reg ?_ -- region 5 index.go:88
      refine wl (ro_move rfl) ?_
      refine wl (ro_nilCheck rfl) ?_
      refine wl (ro_fieldAddr (k := 0) rfl fo_75_0) ?_
      refine wl (ro_loadB rfl sc_36 (by assumption) rfl) ?_
      refine wl (ro_move rfl) ?_
      refine wl_call rfl en_200 (ToInt200 hk64) ?_
      rintro _ _ ⟨rfl, rfl⟩
      refine wl (ro_move rfl) ?_
      refine wl (ro_extract rfl rfl) ?_
      refine wl (ro_extract rfl rfl) ?_
      refine wl (ro_assign rfl) ?_
      refine wl (ro_assign rfl) ?_
      refine wl_nil (x_then (hK16 _ _ ?_))
      clear hK16 K16
      refine forget [(0, _), (1, _), (4, _), (6, _), (7, _), (8, _), (21, _)] ⟨rfl, rfl, rfl, rfl, rfl, rfl, rfl, trivial⟩ (fun e => ?_)
      refine c_seq (fun K17 hK17 => ?_)
      refine c_reg ?_ -- region 6 index.go:89
      refine wl (ro_move rfl) ?_
      refine wl_fork rfl (fun hg37 => ?_) (fun hg37 => ?_)
      · try simp only [decide_eq_true_eq, decide_eq_false_iff_not, Bool.not_eq_true', Bool.not_eq_false', Bool.not_eq_eq_eq_not, Bool.not_true, Bool.not_false, beq_iff_eq, bne_iff_ne, ne_eq, beq_eq_false_iff_ne, bne_eq_false_iff_eq, gt_iff_lt, ge_iff_le, Int.not_lt, Int.not_le] at hg37
        obtain ⟨i, hi⟩ : ∃ i, toI k = some i := by cases hq : toI k with | none => (rw [hq] at hg37; cases hg37) | some i => exact ⟨i, rfl⟩
        rw [hi]
        simp only [Option.getD_some]
        refine wlg_yes rfl (ro_move rfl) ?_
        refine wlg_yes rfl (ro_move rfl) ?_
        refine wlg_yes rfl (ro_nilCheck rfl) ?_
        refine wlg_yes rfl (ro_fieldAddr (k := 1) rfl fo_251_1) ?_
        refine wlg_yes rfl (ro_loadB rfl sc_247 (hA) ((row_cell3 (j := 1) hl (by show some t.va = _; rw [hva])))) ?_
        refine wlg_yes rfl (ro_lenL rfl se_247) ?_
        refine wlg_yes rfl (ro_cmp rfl rfl rfl) ?_
        refine wl (ro_pick rfl rfl rfl) ?_
        refine wl_fork rfl (fun hg46 => ?_) (fun hg46 => ?_)
        · try simp only [decide_eq_true_eq, decide_eq_false_iff_not, Bool.not_eq_true', Bool.not_eq_false', Bool.not_eq_eq_eq_not, Bool.not_true, Bool.not_false, beq_iff_eq, bne_iff_ne, ne_eq, beq_eq_false_iff_ne, bne_eq_false_iff_eq, gt_iff_lt, ge_iff_le, Int.not_lt, Int.not_le] at hg46
          refine wlg_yes rfl (ro_move rfl) ?_
          refine wlg_yes rfl (ro_cmp rfl rfl rfl) ?_
          refine wl (ro_pick rfl rfl rfl) ?_
          refine wl_nil (x_then (hK17 _ _ ?_))
          clear hK17 K17
          refine wc_cond rfl (fun hc49 => ?_) (fun hc49 => ?_)
          · try simp only [decide_eq_true_eq, decide_eq_false_iff_not, Bool.not_eq_true', Bool.not_eq_false', Bool.not_eq_eq_eq_not, Bool.not_true, Bool.not_false, beq_iff_eq, bne_iff_ne, ne_eq, beq_eq_false_iff_ne, bne_eq_false_iff_eq, gt_iff_lt, ge_iff_le, Int.not_lt, Int.not_le] at hc49
            refine c_reg ?_ -- region 7 index.go:90
            refine wl (ro_move rfl) ?_
            refine wl (ro_move rfl) ?_
            refine wl (ro_arith (r := ((p + 1 : Nat) : Int)) rfl rfl rfl (Go.IntWalk.i32_in _ (by omega))) ?_
            refine wl (ro_indexAddrA (et := 21) (k := 1) rfl rfl ar_328 ((show i = ((i.toNat : Nat) : Int) by omega)) ((by omega))) ?_
            refine wl_put rfl rfl rfl sz_21 h4 ((by rw [cel_len]; omega)) ((cel_put i.toNat (by omega))) (fun w3 h4 F3 => ?_)
            replace hF := hF.thenDrew.thenO F3 (by first | exact .inr (by omega) | exact .inl rfl | exact .inl (by assumption) | assumption)
            replace hX := F3.blkO hX (by first | (simp only [ne_eq, (Blk.ne_ty hO hA (by decide)), not_false_eq_true]; done) | omega)
            replace hA := F3.blkO hA (by first | (simp only [ne_eq, (Blk.ne_ty hO hA (by decide)), not_false_eq_true]; done) | omega)
            replace hIt2 := hIt2.fram F3 (fun h => hrib h)
            refine wl_nil (x_blk (x_then ?_))
            refine ⟨uns bs (seen.push bb), hun, seen.push bb, _, ri, rfl, hst.1 i hi hg46 hc49, hIt2, hri, hrib, ?_, hF, kp _ ⟨rfl, rfl, rfl, rfl, trivial⟩⟩
            rw [cel_congr (g := pt (fun i => i32c (F i)) i.toNat (.int .i32 ((p + 1 : Nat) : Int))) (fun j _ => ?_)]
            · exact h4
            · unfold pt
              by_cases hq : j = i.toNat
              · simp [hq, i32c]
              · simp [hq]
          · try simp only [decide_eq_true_eq, decide_eq_false_iff_not, Bool.not_eq_true', Bool.not_eq_false', Bool.not_eq_eq_eq_not, Bool.not_true, Bool.not_false, beq_iff_eq, bne_iff_ne, ne_eq, beq_eq_false_iff_ne, bne_eq_false_iff_eq, gt_iff_lt, ge_iff_le, Int.not_lt, Int.not_le] at hc49
            refine c_skip (x_blk (x_then ?_))
            exact ⟨uns bs (seen.push bb), hun, seen.push bb, _, ri, rfl, hst.2 (fun i' hi' hh => by rw [hi] at hi'; cases hi'; omega), hIt2, hri, hrib, h4, hF, kp _ ⟨rfl, rfl, rfl, rfl, trivial⟩⟩
        · try simp only [decide_eq_true_eq, decide_eq_false_iff_not, Bool.not_eq_true', Bool.not_eq_false', Bool.not_eq_eq_eq_not, Bool.not_true, Bool.not_false, beq_iff_eq, bne_iff_ne, ne_eq, beq_eq_false_iff_ne, bne_eq_false_iff_eq, gt_iff_lt, ge_iff_le, Int.not_lt, Int.not_le] at hg46
          refine wlg_no rfl ?_
          refine wlg_no rfl ?_
          refine wl (ro_pick rfl rfl rfl) ?_
          refine wl_nil (x_then (hK17 _ _ ?_))
          clear hK17 K17
          refine wc_condF rfl ?_
          refine c_skip (x_blk (x_then ?_))
          exact ⟨uns bs (seen.push bb), hun, seen.push bb, _, ri, rfl, hst.2 (fun i' hi' hh => by rw [hi] at hi'; cases hi'; omega), hIt2, hri, hrib, h4, hF, kp _ ⟨rfl, rfl, rfl, rfl, trivial⟩⟩
      · try simp only [decide_eq_true_eq, decide_eq_false_iff_not, Bool.not_eq_true', Bool.not_eq_false', Bool.not_eq_eq_eq_not, Bool.not_true, Bool.not_false, beq_iff_eq, bne_iff_ne, ne_eq, beq_eq_false_iff_ne, bne_eq_false_iff_eq, gt_iff_lt, ge_iff_le, Int.not_lt, Int.not_le] at hg37
        have hni : toI k = none := by cases hq : toI k with | none => rfl | some i => (rw [hq] at hg37; cases hg37)
        refine wlg_no rfl ?_
        refine wlg_no rfl ?_
        refine wlg_no rfl ?_
        refine wlg_no rfl ?_
        refine wlg_no rfl ?_
        refine wlg_no rfl ?_
        refine wlg_no rfl ?_
        refine wl (ro_pick rfl rfl rfl) ?_
        refine wl (ro_move rfl) ?_
        refine wlg_no rfl ?_
        refine wlg_no rfl ?_
        refine wl (ro_pick rfl rfl rfl) ?_
        refine wl_nil (x_then (hK17 _ _ ?_))
        clear hK17 K17
        refine wc_condF rfl ?_
        refine c_skip (x_blk (x_then ?_))
        exact ⟨uns bs (seen.push bb), hun, seen.push bb, _, ri, rfl, hst.2 (fun i' hi' hh => by rw [hni] at hi'; cases hi'), hIt2, hri, hrib, h4, hF, kp _ ⟨rfl, rfl, rfl, rfl, trivial⟩⟩

end Go.Proofs.Qxb6500568aGreatDoor
