import Derived.Test.Qxb6500568aGreatDoorKd
/- The reader of an image, on good images. -/
namespace Go.Proofs.Qxb6500568aGreatDoor
open Ieee
set_option linter.unusedVariables false
set_option linter.unusedSimpArgs false
set_option linter.unusedSectionVars false

section
variable {P : Program} {n : Nat} {e : Nat → Option Value} {w : World}
theorem u16_bv {x : Nat} (h : x < 65536) : (BitVec.ofInt 16 (x : Int)).toNat = x := by
  rw [BitVec.toNat_ofInt]
  omega
theorem u16_wrap {x : Nat} (h : x < 65536) : IntKind.u16.wrap (x : Int) = (x : Int) := by
  unfold IntKind.wrap
  simp [IntKind.bits, IntKind.signed]
  omega
theorem ro_shl16 {t t' : TypeId} {x y : Operand} {b : UInt8} (hx : evO n e x = some (u16c b.toNat)) (hy : evO n e y = some (.int .u64 8)) : RO P n e w (.binOp .shl t x y t') (u16c (b.toNat * 2 ^ 8)) := by
  have h := ro_shl (P := P) (w := w) (t := t) (t' := t') hx hy (by decide)
  have hb : b.toNat < 256 := b.toNat_lt
  have e1 : IntKind.u16.wrap ((b.toNat : Int) * 2 ^ (min ((8 : Int)).toNat IntKind.u16.bits)) = ((b.toNat * 2 ^ 8 : Nat) : Int) := by
    show IntKind.u16.wrap ((b.toNat : Int) * 2 ^ 8) = _
    unfold IntKind.wrap
    simp [IntKind.bits, IntKind.signed]
    omega
  rw [e1] at h
  exact h
theorem ro_or16 {t t' : TypeId} {x y : Operand} {a b : Nat} (hx : evO n e x = some (u16c a)) (hy : evO n e y = some (u16c (b * 2 ^ 8))) (ha : a < 256) (hb : b < 256) : RO P n e w (.binOp .or t x y t') (u16c (a + 256 * b)) := by
  have key : RO P n e w (.binOp .or t x y t') (u16c (a ||| b * 2 ^ 8)) := by
    refine ro_bits (k := .u16) hx hy ?_
    show some (IntKind.u16.wrap (BitVec.ofInt 16 (a : Int) ||| BitVec.ofInt 16 ((b * 2 ^ 8 : Nat) : Int)).toNat) = _
    rw [BitVec.toNat_or, u16_bv (by omega), u16_bv (by omega), u16_wrap]
    exact Nat.or_lt_two_pow (n := 16) (by omega) (by omega)
  rw [Nat.or_comm, or_shl (by omega)] at key
  rw [show a + 256 * b = b * 2 ^ 8 + a by omega]
  exact key
end
/-- a row with any frozen mark. -/
def FzB (H : Array Obj) (b : Nat) (l : List Value) (t : TypeId) : Prop := ∃ fz, H[b]? = some (.cells l.toArray t fz)
section
variable {P : Program} {n : Nat} {e : Nat → Option Value} {w w' : World} {b : Nat} {l : List Value} {t : TypeId} {F : Nat → Prop}
theorem FzB.lt {H : Array Obj} (h : FzB H b l t) : b < H.size := by
  obtain ⟨fz, h⟩ := h
  exact (Array.getElem?_eq_some_iff.1 h).1
theorem FzB.cell (h : FzB w.heap b l t) (i : Nat) : w.cell? ⟨b, i, none⟩ = l[i]? := by
  obtain ⟨fz, h⟩ := h
  simp [World.cell?, h]
theorem FzB.fram (h : FzB w.heap b l t) (f : Fram F w w') (hn : ¬ F b) : FzB w'.heap b l t := by
  have hl := h.lt
  obtain ⟨fz, h⟩ := h
  exact ⟨fz, by rw [f.block b hl hn]; exact h⟩
theorem FzB.framN (h : FzB w.heap b l t) (f : Fram none' w w') : FzB w'.heap b l t := h.fram f (fun z => z)
theorem FzB.framO {c : Nat} (h : FzB w.heap b l t) (f : Fram (one c) w w') (hn : b ≠ c) : FzB w'.heap b l t := h.fram f (fun z => hn z)
theorem Fram.fzN (f : Fram none' w w') (h : FzB w.heap b l t) : FzB w'.heap b l t := h.framN f
theorem Fram.fzF (f : Fram F w w') (h : FzB w.heap b l t) (hn : ¬ F b) : FzB w'.heap b l t := h.fram f hn
theorem Fram.fzO {c : Nat} (f : Fram (one c) w w') (h : FzB w.heap b l t) (hn : b ≠ c) : FzB w'.heap b l t := h.framO f hn
theorem ro_loadZ {t t' : TypeId} {x : Operand} {b i : Nat} {l : List Value} {v : Value} (hx : evO n e x = some (.pointer (some ⟨b, i, none⟩))) (ht : scalB P t = true) (hB : FzB w.heap b l t') (hi : l[i]? = some v) : RO P n e w (.load t x) v :=
  ro_load hx ht (by rw [hB.cell]; exact hi)
theorem ro_loadAggZ {t t' : TypeId} {x : Operand} {b o k : Nat} {l cs : List Value} (hx : evO n e x = some (.pointer (some ⟨b, o, none⟩))) (ht : aggB P t k = true) (hB : FzB w.heap b l t') (hl : cs.length = k) (hc : (l.drop o).take k = cs) :
    RO P n e w (.load t x) (.agg cs.toArray) := by
  refine ro_loadAgg hx ht hl ?_
  intro j v hj
  rw [hB.cell]
  subst hc
  rw [List.getElem?_take] at hj
  split at hj
  · rwa [List.getElem?_drop] at hj
  · cases hj
end
/-- the reader at place i of the image s. -/
structure RdV (u : World) (rb gb cap : Nat) (l : List Value) (s : Str) (i : Nat) : Prop where
  r : Blk u.heap rb [.slice (some ⟨gb, 0, none⟩) s.length cap, i64c i, .bool false] 254
  g : FzB u.heap gb l 5
  c : s.length ≤ cap
  l : l.take s.length = s.map u8c
  n : s.length ≤ 100000
  ne : gb ≠ rb
section
variable {u u' : World} {rb gb cap : Nat} {l : List Value} {s : Str} {i : Nat}
theorem RdV.at (h : RdV u rb gb cap l s i) {k : Nat} {x : UInt8} (hk : s[k]? = some x) : l[k]? = some (u8c x) := by
  have h1 : (l.take s.length)[k]? = some (u8c x) := by rw [h.l, List.getElem?_map, hk]; rfl
  have := (List.getElem?_eq_some_iff.1 hk).1
  rwa [List.getElem?_take_of_lt this] at h1
theorem RdV.thruN (h : RdV u rb gb cap l s i) (f : Fram none' u u') : RdV u' rb gb cap l s i := ⟨f.blkN h.r, h.g.framN f, h.c, h.l, h.n, h.ne⟩
theorem RdV.far {F : Nat → Prop} (h : RdV u rb gb cap l s i) (f : Fram F u u') (h1 : ¬ F rb) (h2 : ¬ F gb) : RdV u' rb gb cap l s i := ⟨h.r.fram f h1, h.g.fram f h2, h.c, h.l, h.n, h.ne⟩
set_option maxHeartbeats 4000000 in
theorem take196 (h : RdV u rb gb cap l s i) {n : Nat} (hi : i < s.length) (hn : i + n ≤ s.length) : Ret Tryz.prog 196 [ptr rb, i64c n] u (fun r u' => r = .slice (some ⟨gb, i, none⟩) n (cap - i) ∧ RdV u' rb gb cap l s (i + n) ∧ Fram (one rb) u u') := by
  have hR := h.r
  have hc := h.c
  have hs := h.n
  have hF : Fram (one rb) u u := Fram.refl _ _
  refine ret_of Tryz.func196 rfl Tryz.ntmps196 rfl ?_
  refine c_seq (fun K1 hK1 => ?_)
  refine c_reg ?_ -- region 0 vm.go:119
  refine wl (ro_assign rfl) ?_
  refine wl_nil (x_then (hK1 _ _ ?_))
  clear hK1 K1
  refine c_seq (fun K2 hK2 => ?_)
  refine c_seq (fun K3 hK3 => ?_)
  refine c_pi [(0, false), (1, false), (2, false), (3, false), (4, false), (5, false), (6, false), (7, false), (8, false), (9, false), (10, false), (11, false), (12, false), (13, false), (14, false), (15, false), (16, false), (17, false)] (fun u => Blk u.heap rb [.slice (some ⟨gb, 0, none⟩) s.length cap, i64c i, .bool false] 254) mixed (by kernel_rfl) rfl (by kernel_rfl) (po_then (po_then (po_bp))) (hR) ?_ -- region 1 vm.go:120
  refine pi_ro rfl (fun w hS => ro_move rfl) ?_
  refine pi_ro rfl (fun w hS => ro_nilCheck rfl) ?_
  refine pi_ro rfl (fun w hS => ro_fieldAddr (k := 2) rfl fo_254_2) ?_
  refine pi_ro rfl (fun w hS => ro_loadB rfl sc_4 (hS) rfl) ?_
  refine pi_ro rfl (fun w hS => ro_move rfl) ?_
  refine pi_gyes rfl rfl (fun w hS => ro_move rfl) ?_
  refine pi_gyes rfl rfl (fun w hS => ro_move rfl) ?_
  refine pi_gyes rfl rfl (fun w hS => ro_nilCheck rfl) ?_
  refine pi_gyes rfl rfl (fun w hS => ro_fieldAddr (k := 0) rfl fo_254_0) ?_
  refine pi_gyes rfl rfl (fun w hS => ro_loadB rfl sc_70 (hS) rfl) ?_
  refine pi_gyes rfl rfl (fun w hS => ro_lenL rfl se_70) ?_
  refine pi_gyes rfl rfl (fun w hS => ro_move rfl) ?_
  refine pi_gyes rfl rfl (fun w hS => ro_nilCheck rfl) ?_
  refine pi_gyes rfl rfl (fun w hS => ro_fieldAddr (k := 1) rfl fo_254_1) ?_
  refine pi_gyes rfl rfl (fun w hS => ro_loadB rfl sc_3 (hS) rfl) ?_
  refine pi_gyes rfl rfl (fun w hS => ro_arith rfl rfl rfl (Go.IntWalk.i64_in _ (by omega))) ?_
  refine pi_gyes rfl rfl (fun w hS => ro_cmp rfl rfl rfl) ?_
  refine pi_ro rfl (fun w hS => ro_pick rfl rfl rfl) ?_
  refine pi_nil (x_then (hK3 _ _ ?_))
  clear hK3 K3
  refine wc_cond rfl (fun hc23 => ?_) (fun hc23 => ?_)
  · try simp only [decide_eq_true_eq, decide_eq_false_iff_not, Bool.not_eq_true', Bool.not_eq_false', Bool.not_eq_eq_eq_not, Bool.not_true, Bool.not_false, beq_iff_eq, bne_iff_ne, ne_eq, beq_eq_false_iff_ne, bne_eq_false_iff_eq, gt_iff_lt, ge_iff_le, Int.not_lt, Int.not_le] at hc23
    exfalso; omega
  · try simp only [decide_eq_true_eq, decide_eq_false_iff_not, Bool.not_eq_true', Bool.not_eq_false', Bool.not_eq_eq_eq_not, Bool.not_true, Bool.not_false, beq_iff_eq, bne_iff_ne, ne_eq, beq_eq_false_iff_ne, bne_eq_false_iff_eq, gt_iff_lt, ge_iff_le, Int.not_lt, Int.not_le] at hc23
    refine c_skip (x_then (hK2 _ _ ?_))
    clear hK2 K2
    refine forget [(0, _), (1, _)] ⟨rfl, rfl, trivial⟩ (fun e => ?_)
    refine c_seq (fun K4 hK4 => ?_)
    refine c_pi [(0, false), (1, false), (2, false), (3, false), (4, false), (5, false), (6, false), (7, false), (8, false), (9, false), (10, false), (11, false), (12, false), (13, false), (14, false), (15, false)] (fun u => Blk u.heap rb [.slice (some ⟨gb, 0, none⟩) s.length cap, i64c i, .bool false] 254) mixed (by kernel_rfl) rfl (by kernel_rfl) (po_then (po_bp)) (hR) ?_ -- region 4 vm.go:124
    refine pi_ro rfl (fun w hS => ro_move rfl) ?_
    refine pi_ro rfl (fun w hS => ro_nilCheck rfl) ?_
    refine pi_ro rfl (fun w hS => ro_fieldAddr (k := 0) rfl fo_254_0) ?_
    refine pi_ro rfl (fun w hS => ro_loadB rfl sc_70 (hS) rfl) ?_
    refine pi_ro rfl (fun w hS => ro_move rfl) ?_
    refine pi_ro rfl (fun w hS => ro_nilCheck rfl) ?_
    refine pi_ro rfl (fun w hS => ro_fieldAddr (k := 1) rfl fo_254_1) ?_
    refine pi_ro rfl (fun w hS => ro_loadB rfl sc_3 (hS) rfl) ?_
    refine pi_ro rfl (fun w hS => ro_move rfl) ?_
    refine pi_ro rfl (fun w hS => ro_nilCheck rfl) ?_
    refine pi_ro rfl (fun w hS => ro_fieldAddr (k := 1) rfl fo_254_1) ?_
    refine pi_ro rfl (fun w hS => ro_loadB rfl sc_3 (hS) rfl) ?_
    refine pi_ro rfl (fun w hS => ro_move rfl) ?_
    refine pi_ro rfl (fun w hS => ro_arith rfl rfl rfl (Go.IntWalk.i64_in _ (by omega))) ?_
    refine pi_ro rfl (fun w hS => ro_sliceLH (l := i) (h := i + n) rfl rfl rfl se_70 rfl (by omega) (by omega) (by omega)) ?_
    refine pi_ro rfl (fun w hS => ro_assign rfl) ?_
    refine pi_nil (x_then (hK4 _ _ ?_))
    clear hK4 K4
    refine forget [(0, _), (1, _), (5, _)] ⟨rfl, rfl, rfl, trivial⟩ (fun e => ?_)
    refine c_seq (fun K5 hK5 => ?_)
    refine c_reg ?_ -- region 5 vm.go:125
    refine wl (ro_move rfl) ?_
    refine wl (ro_nilCheck rfl) ?_
    refine wl (ro_fieldAddr (k := 1) rfl fo_254_1) ?_
    refine wl (ro_loadB rfl sc_3 (hR) rfl) ?_
    refine wl (ro_move rfl) ?_
    refine wl (ro_arith rfl rfl rfl (Go.IntWalk.i64_in _ (by omega))) ?_
    refine wl (ro_nilCheck rfl) ?_
    refine wl (ro_fieldAddr (k := 1) rfl fo_254_1) ?_
    refine wl_put rfl rfl rfl sz_3 hR (by simp) (rfl) (fun w1 hR F1 => ?_)
    replace hF := hF.thenDrew.thenO F1 (by first | exact .inr (by omega) | exact .inl rfl | exact .inl (by assumption) | assumption)
    refine wl_nil (x_then (hK5 _ _ ?_))
    clear hK5 K5
    refine forget [(5, _)] ⟨rfl, trivial⟩ (fun e => ?_)
    refine c_seq (fun K6 hK6 => ?_)
    refine c_reg ?_ -- region 6 vm.go:126
    refine wl (ro_move rfl) ?_
    refine wl (ro_assign rfl) ?_
    refine wl_nil (x_then (hK6 _ _ ?_))
    clear hK6 K6
    refine c_ret ?_
    refine bp_ret Tryz.results196 rfl ?_
    refine ⟨?_, ⟨hR, (h.g.fram hF (fun z ↦ h.ne z)), h.c, h.l, h.n, h.ne⟩, hF⟩
    show (Value.slice _ _ _) = _
    rw [if_neg (by omega), Nat.zero_add, Nat.mul_one, Nat.add_sub_cancel_left]
set_option maxHeartbeats 4000000 in
theorem u8140 (h : RdV u rb gb cap l s i) {x : UInt8} (hx : s[i]? = some x) : Ret Tryz.prog 140 [ptr rb] u (fun r u' => r = u8c x ∧ RdV u' rb gb cap l s (i + 1) ∧ Fram (one rb) u u') := by
  have hi := (List.getElem?_eq_some_iff.1 hx).1
  refine ret_of Tryz.func140 rfl Tryz.ntmps140 rfl ?_
  refine c_seq (fun K1 hK1 => ?_)
  refine c_reg ?_ -- region 0 vm.go:129
  refine wl (ro_assign rfl) ?_
  refine wl_nil (x_then (hK1 _ _ ?_))
  clear hK1 K1
  refine forget [(0, _)] ⟨rfl, trivial⟩ (fun e => ?_)
  refine c_seq (fun K2 hK2 => ?_)
  refine c_reg ?_ -- region 1 vm.go:130
  refine wl (ro_move rfl) ?_
  refine wl_call rfl en_196 (take196 h (n := 1) hi (by omega)) ?_
  rintro v1 u1 ⟨rfl, h1, f1⟩
  have hR := h1.r
  have hg := h1.g
  refine wl (ro_assign rfl) ?_
  refine wl_nil (x_then (hK2 _ _ ?_))
  clear hK2 K2
  refine c_seq (fun K3 hK3 => ?_)
  refine c_seq (fun K4 hK4 => ?_)
  refine c_reg ?_ -- region 2 vm.go:131
  refine wl (ro_move rfl) ?_
  refine wl (ro_nilCheck rfl) ?_
  refine wl (ro_fieldAddr (k := 2) rfl fo_254_2) ?_
  refine wl (ro_loadB rfl sc_4 (hR) rfl) ?_
  refine wl_nil (x_then (hK4 _ _ ?_))
  clear hK4 K4
  refine wc_cond rfl (fun hc9 => ?_) (fun hc9 => ?_)
  · try simp only [decide_eq_true_eq, decide_eq_false_iff_not, Bool.not_eq_true', Bool.not_eq_false', Bool.not_eq_eq_eq_not, Bool.not_true, Bool.not_false, beq_iff_eq, bne_iff_ne, ne_eq, beq_eq_false_iff_ne, bne_eq_false_iff_eq, gt_iff_lt, ge_iff_le, Int.not_lt, Int.not_le] at hc9
    cases hc9
  · try simp only [decide_eq_true_eq, decide_eq_false_iff_not, Bool.not_eq_true', Bool.not_eq_false', Bool.not_eq_eq_eq_not, Bool.not_true, Bool.not_false, beq_iff_eq, bne_iff_ne, ne_eq, beq_eq_false_iff_ne, bne_eq_false_iff_eq, gt_iff_lt, ge_iff_le, Int.not_lt, Int.not_le] at hc9
    refine c_skip (x_then (hK3 _ _ ?_))
    clear hK3 K3
    refine forget [(3, _)] ⟨rfl, trivial⟩ (fun e => ?_)
    refine c_seq (fun K5 hK5 => ?_)
    refine c_reg ?_ -- region 4 vm.go:134
    refine wl (ro_move rfl) ?_
    refine wl (ro_indexAddr (et := 5) (k := 1) rfl rfl se_70 (rfl) ((by decide))) ?_
    refine wl (ro_loadZ rfl sc_5 (hg) ((by rw [show i + 0 * 1 = i from rfl]; exact h1.at hx))) ?_
    refine wl (ro_assign rfl) ?_
    refine wl_nil (x_then (hK5 _ _ ?_))
    clear hK5 K5
    refine c_ret ?_
    refine bp_ret Tryz.results140 rfl ?_
    exact ⟨rfl, h1, f1⟩
set_option maxHeartbeats 4000000 in
theorem u16197 (h : RdV u rb gb cap l s i) {x y : UInt8} (hx : s[i]? = some x) (hy : s[i + 1]? = some y) : Ret Tryz.prog 197 [ptr rb] u (fun r u' => r = u16c (x.toNat + 256 * y.toNat) ∧ RdV u' rb gb cap l s (i + 2) ∧ Fram (one rb) u u') := by
  have hi := (List.getElem?_eq_some_iff.1 hx).1
  have hi2 := (List.getElem?_eq_some_iff.1 hy).1
  have hxl : x.toNat < 256 := x.toNat_lt
  have hyl : y.toNat < 256 := y.toNat_lt
  refine ret_of Tryz.func197 rfl Tryz.ntmps197 rfl ?_
  refine c_seq (fun K1 hK1 => ?_)
  refine c_reg ?_ -- region 0 vm.go:138
  refine wl (ro_assign rfl) ?_
  refine wl_nil (x_then (hK1 _ _ ?_))
  clear hK1 K1
  refine forget [(0, _)] ⟨rfl, trivial⟩ (fun e => ?_)
  refine c_seq (fun K2 hK2 => ?_)
  refine c_reg ?_ -- region 1 vm.go:139
  refine wl (ro_move rfl) ?_
  refine wl_call rfl en_196 (take196 h (n := 2) hi (by omega)) ?_
  rintro v1 u1 ⟨rfl, h1, f1⟩
  have hR := h1.r
  have hg := h1.g
  refine wl (ro_assign rfl) ?_
  refine wl_nil (x_then (hK2 _ _ ?_))
  clear hK2 K2
  refine c_seq (fun K3 hK3 => ?_)
  refine c_seq (fun K4 hK4 => ?_)
  refine c_reg ?_ -- region 2 vm.go:140
  refine wl (ro_move rfl) ?_
  refine wl (ro_nilCheck rfl) ?_
  refine wl (ro_fieldAddr (k := 2) rfl fo_254_2) ?_
  refine wl (ro_loadB rfl sc_4 (hR) rfl) ?_
  refine wl_nil (x_then (hK4 _ _ ?_))
  clear hK4 K4
  refine wc_cond rfl (fun hc9 => ?_) (fun hc9 => ?_)
  · try simp only [decide_eq_true_eq, decide_eq_false_iff_not, Bool.not_eq_true', Bool.not_eq_false', Bool.not_eq_eq_eq_not, Bool.not_true, Bool.not_false, beq_iff_eq, bne_iff_ne, ne_eq, beq_eq_false_iff_ne, bne_eq_false_iff_eq, gt_iff_lt, ge_iff_le, Int.not_lt, Int.not_le] at hc9
    cases hc9
  · try simp only [decide_eq_true_eq, decide_eq_false_iff_not, Bool.not_eq_true', Bool.not_eq_false', Bool.not_eq_eq_eq_not, Bool.not_true, Bool.not_false, beq_iff_eq, bne_iff_ne, ne_eq, beq_eq_false_iff_ne, bne_eq_false_iff_eq, gt_iff_lt, ge_iff_le, Int.not_lt, Int.not_le] at hc9
    refine c_skip (x_then (hK3 _ _ ?_))
    clear hK3 K3
    refine forget [(3, _)] ⟨rfl, trivial⟩ (fun e => ?_)
    refine c_seq (fun K5 hK5 => ?_)
    refine c_pi [(0, false), (1, false), (2, false), (3, false), (4, false), (5, false), (6, false), (7, false), (8, false), (9, false), (10, false)] (fun u => FzB u.heap gb l 5) mixed (by kernel_rfl) rfl (by kernel_rfl) (po_then (po_bp)) (hg) ?_ -- region 4 vm.go:143
    refine pi_ro rfl (fun w hS => ro_move rfl) ?_
    refine pi_ro rfl (fun w hS => ro_indexAddr (et := 5) (k := 1) rfl rfl se_70 (rfl) ((by decide))) ?_
    refine pi_ro rfl (fun w hS => ro_loadZ rfl sc_5 (hS) ((by rw [show i + 0 * 1 = i from rfl]; exact h1.at hx))) ?_
    refine pi_ro rfl (fun w hS => ro_conv rfl sc_5 in_201 (Go.IntWalk.u16_in _ (by omega))) ?_
    refine pi_ro rfl (fun w hS => ro_move rfl) ?_
    refine pi_ro rfl (fun w hS => ro_indexAddr (et := 5) (k := 1) rfl rfl se_70 (rfl) ((by decide))) ?_
    refine pi_ro rfl (fun w hS => ro_loadZ rfl sc_5 (hS) (h1.at hy)) ?_
    refine pi_ro rfl (fun w hS => ro_conv rfl sc_5 in_201 (Go.IntWalk.u16_in _ (by omega))) ?_
    refine pi_ro rfl (fun w hS => ro_shl16 rfl rfl) ?_
    refine pi_ro rfl (fun w hS => ro_or16 rfl rfl hxl hyl) ?_
    refine pi_ro rfl (fun w hS => ro_assign rfl) ?_
    refine pi_nil (x_then (hK5 _ _ ?_))
    clear hK5 K5
    refine c_ret ?_
    refine bp_ret Tryz.results197 rfl ?_
    exact ⟨rfl, h1.thruN ((Fram.refl none' _).thenDrew), f1.thenDrew⟩
end
end Go.Proofs.Qxb6500568aGreatDoor
