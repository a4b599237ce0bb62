import Derived.Test.Qxb6500568aGreatDoorFx
import Derived.Test.Qxb6500568aGreatDoorFd
import Derived.Test.Qxb6500568aGreatDoorFj
/- Library: equality of small structures; regions of any order that call and lay a part of the answer into a new block; two new rows in any order. -/
namespace Go.Proofs.Qxb6500568aGreatDoor
set_option linter.unusedVariables false
set_option linter.unusedSimpArgs false
section
variable {P : Program} {n : Nat} {e : Nat → Option Value} {w : World}

/-- A structure of two numbers and a text. -/
def st3B (P : Program) (t : TypeId) (t0 t1 t2 : TypeId) : Bool := (match P.underlying t with
  | some (.struct fs) => (match fs.toList with
    | [f0, f1, f2] => f0.name != "_" && f1.name != "_" && f2.name != "_" && f0.type == t0 && f1.type == t1 && f2.type == t2 && f0.offset == 0 && f1.offset == 1 && f2.offset == 2
    | _ => false)
  | _ => false) && !P.stoodInHeld t
theorem st3B_spec {t t0 t1 t2 : TypeId} (h : st3B P t t0 t1 t2 = true) : P.stoodInHeld t = false ∧ ∃ f0 f1 f2 : Field, P.underlying t = some (.struct #[f0, f1, f2]) ∧ f0.name ≠ "_" ∧ f1.name ≠ "_" ∧ f2.name ≠ "_" ∧ f0.type = t0 ∧ f1.type = t1 ∧ f2.type = t2 ∧ f0.offset = 0 ∧ f1.offset = 1 ∧ f2.offset = 2 := by
  unfold st3B at h
  rw [Bool.and_eq_true] at h
  refine ⟨by simpa using h.2, ?_⟩
  have h := h.1
  split at h
  · rename_i fs hu
    split at h
    · rename_i f0 f1 f2 hfs
      have hfs' : fs = #[f0, f1, f2] := by
        have := congrArg List.toArray hfs
        simpa using this
      rw [hfs'] at hu
      simp only [Bool.and_eq_true, bne_iff_ne, ne_eq, beq_iff_eq] at h
      obtain ⟨⟨⟨⟨⟨⟨⟨⟨a, b⟩, c⟩, d⟩, e⟩, f⟩, g⟩, h⟩, i⟩ := h
      exact ⟨f0, f1, f2, hu, a, b, c, d, e, f, g, h, i⟩
    · cases h
  · cases h
theorem eqSt3_run {t t0 t1 t2 : TypeId} {q : IntKind} {a0 a1 c0 c1 : Int} {a2 c2 : ByteArray} (ht : st3B P t t0 t1 t2 = true) (h0 : intB P t0 q = true) (h1 : intB P t1 q = true) (h2 : strB P t2 = true) (k : Nat) :
    (Op.equalIn (k + 1 + 1) t (.agg #[.int q a0, .int q a1, .string a2]) (.agg #[.int q c0, .int q c1, .string c2])).run P w = .ok (a0 == c0 && a1 == c1 && a2 == c2) w := by
  obtain ⟨hs, f0, f1, f2, hu, n0, n1, n2, y0, y1, y2, o0, o1, o2⟩ := st3B_spec ht
  have u0 := intB_spec h0
  have u1 := intB_spec h1
  have u2 := strB_spec h2
  have g0 : ∀ w, (isAgg t0).run P w = .ok false w := fun w => by unfold isAgg; simp [run_underlying u0]
  have g1 : ∀ w, (isAgg t1).run P w = .ok false w := fun w => by unfold isAgg; simp [run_underlying u1]
  have g2 : ∀ w, (isAgg t2).run P w = .ok false w := fun w => by unfold isAgg; simp [run_underlying u2]
  have e0 : ∀ (a c : Int), (Op.equalIn (k + 1) t0 (.int q a) (.int q c)).run P w = .ok (a == c) w := fun a c => Go.run_equalIn_int w k t0 q q a c u0
  have e1 : ∀ (a c : Int), (Op.equalIn (k + 1) t1 (.int q a) (.int q c)).run P w = .ok (a == c) w := fun a c => Go.run_equalIn_int w k t1 q q a c u1
  have e2 : ∀ (a c : ByteArray), (Op.equalIn (k + 1) t2 (.string a) (.string c)).run P w = .ok (a == c) w := fun a c => by
    rw [Op.equalIn]
    simp only [Sem.run_bind, run_underlying u2, Result.andThen_ok]
    rfl
  rw [Op.equalIn]
  simp only [Sem.run_bind, run_underlying hu, Result.andThen_ok]
  by_cases k0 : a0 = c0
  · by_cases k1 : a1 = c1
    · cases k2 : (a2 == c2)
      · simp [part, hs, n0, n1, n2, y0, y1, y2, o0, o1, o2, g0, g1, g2, e0, e1, e2, k0, k1, k2]
      · simp [part, hs, n0, n1, n2, y0, y1, y2, o0, o1, o2, g0, g1, g2, e0, e1, e2, k0, k1, k2]
    · simp [part, hs, n0, n1, n2, y0, y1, y2, o0, o1, o2, g0, g1, g2, e0, e1, e2, k0, k1]
  · simp [part, hs, n0, n1, n2, y0, y1, y2, o0, o1, o2, g0, g1, g2, e0, e1, e2, k0]
theorem ro_eqSt3 {op : BinOp} {t t' t0 t1 t2 : TypeId} {x y : Operand} {q : IntKind} {a0 a1 c0 c1 : Int} {a2 c2 : List UInt8} {r : Bool} (hx : evO n e x = some (.agg #[.int q a0, .int q a1, S a2])) (hy : evO n e y = some (.agg #[.int q c0, .int q c1, S c2]))
    (ht : st3B P t t0 t1 t2 = true) (h0 : intB P t0 q = true) (h1 : intB P t1 q = true) (h2 : strB P t2 = true) (hg : P.eqGuardType P.depth t = false)
    (hr : (match op with | .eql => some (decide (a0 = c0 ∧ a1 = c1 ∧ a2 = c2)) | .neq => some (!decide (a0 = c0 ∧ a1 = c1 ∧ a2 = c2)) | _ => none) = some r) : RO P n e w (.binOp op t x y t') (.bool r) := by
  intro ds dst ty ps af g
  have key : (Op.equal t (.agg #[.int q a0, .int q a1, S a2]) (.agg #[.int q c0, .int q c1, S c2])).run P w = .ok (decide (a0 = c0 ∧ a1 = c1 ∧ a2 = c2)) w := by
    have := eqSt3_run (w := w) (a0 := a0) (a1 := a1) (c0 := c0) (c1 := c1) (a2 := ⟨a2.toArray⟩) (c2 := ⟨c2.toArray⟩) ht h0 h1 h2 9998
    have e : (a0 == c0 && a1 == c1 && ((⟨a2.toArray⟩ : ByteArray) == ⟨c2.toArray⟩)) = decide (a0 = c0 ∧ a1 = c1 ∧ a2 = c2) := by
      rw [Bool.eq_iff_iff]
      have h3 : ((⟨a2.toArray⟩ : ByteArray) == ⟨c2.toArray⟩) = decide (a2 = c2) := by
        rw [Bool.eq_iff_iff, decide_eq_true_eq]
        show (a2.toArray == c2.toArray) = true ↔ _
        simp
      rw [h3]
      simp only [Bool.and_eq_true, beq_iff_eq, decide_eq_true_eq, and_assoc]
    rw [e] at this
    exact this
  cases op <;> simp at hr <;> simp [execOp, evO_eval hx, evO_eval hy, eqGuard, hg, binOp, key, hr]
end
section
variable {P : Program} {ops : Array Oper} {Q : Exit → Act → World → Prop} {S : World → Prop} {last : Nat} {n : Nat} {e : Nat → Option Value} {w : World}

theorem ql_putam {i : Nat} {r : List (Nat × Bool)} {ty : TypeId} {ps : String} {af : Array Edge} {t t' : TypeId} {x y : Operand} {b j m : Nat} {l l' cs : List Value} (ho : ops[i]? = some ⟨none, .store t x y, ty, ps, af, none⟩) (hx : evO n e x = some (.pointer (some ⟨b, j, none⟩))) (hy : evO n e y = some (.agg cs.toArray)) (h1 : ∀ u ∈ cs, u.oneCell' = true) (ht : sizeB P t m = true) (hc : cs.length = m)
    (hB : Blk w.heap b l t') (hi : j + m ≤ l.length) (hl : l.take j ++ cs ++ l.drop (j + m) = l') (hS : ∀ w1, Blk w1.heap b l' t' → Fram (one b) w w1 → S w1) (k : ∀ w1, Blk w1.heap b l' t' → Fram (one b) w w1 → WQ P ops Q S last r (Fr n e []) w1) : WQ P ops Q S last ((i, true) :: r) (Fr n e []) w := by
  subst hl
  exact ql_so ho (so_storeAggB hx hy h1 ht hc hB hi) (hS _ (hB.set _) (set_fram hB _)) (k _ (hB.set _) (set_fram hB _))

theorem ql_make {i d : Nat} {r : List (Nat × Bool)} {ty : TypeId} {ps : String} {af : Array Edge} {t et k len cap : Nat} {x y : Operand} {q q' : IntKind} {z : List Value} (ho : ops[i]? = some ⟨some d, .makeSlice t x y, ty, ps, af, none⟩) (hx : evO n e x = some (.int q (len : Int))) (hy : evO n e y = some (.int q' (cap : Int))) (ht : selB P t et k = true) (hz : zeroB P et z) (hz0 : z ≠ []) (hlc : len ≤ cap) (hc : cap ≤ 1000000) (hk : Nat.ble k 16 = true) (hby : (P.info? et).any (fun i => Nat.ble i.bytes 1000) = true)
    (hS : ∀ w1, Fram none' w w1 → S w1) (K : ∀ b w1, w.heap.size ≤ b → FB w1.heap b (cap * k) (zc z) et → Fram none' w w1 → WQ P ops Q S last r (Fr n (upd e d (.slice (some ⟨b, 0, none⟩) len cap)) []) w1) : WQ P ops Q S last ((i, true) :: r) (Fr n e []) w := by
  refine ql_eo ho (eo_make hx hy ht hz hlc hc hk hby) ?_ ?_
  · exact hS _ (Fram.alloc none' w _)
  · rw [made_cel hz0]
    exact K w.heap.size _ (Nat.le_refl _) (Blk.new w _ et) (Fram.alloc none' w _)
theorem ql_box {i d : Nat} {r : List (Nat × Bool)} {ty : TypeId} {ps : String} {af : Array Edge} {t : TypeId} {x : Operand} {v : Value} {cs : List Value} (ho : ops[i]? = some ⟨some d, .box t x, ty, ps, af, none⟩) (hx : evO n e x = some v) (hv : v.cells = cs.toArray) (hS : ∀ w1, Fram none' w w1 → S w1)
    (k : ∀ b w1, w.heap.size ≤ b → Blk w1.heap b cs t → Fram none' w w1 → WQ P ops Q S last r (Fr n (upd e d (ptr b)) []) w1) : WQ P ops Q S last ((i, true) :: r) (Fr n e []) w :=
  ql_eo ho (eo_box hx hv) (hS _ (Fram.alloc none' w _)) (k w.heap.size _ (Nat.le_refl _) (Blk.new w cs t) (Fram.alloc none' w _))

/-- Two new rows, whichever is first. -/
theorem wf_mm {i j d1 d2 : Nat} {r : List (Nat × Bool)} {ty1 ty2 : TypeId} {ps1 ps2 : String} {af1 af2 : Array Edge} {t1 t2 et1 et2 k1 k2 m1 m2 : Nat} {z1 z2 : List Value}
    (hi : ops[i]? = some ⟨some d1, .makeSlice t1 (.const (.int .i64 (m1 : Int))) (.const (.int .i64 (m1 : Int))), ty1, ps1, af1, none⟩)
    (hj : ops[j]? = some ⟨some d2, .makeSlice t2 (.const (.int .i64 (m2 : Int))) (.const (.int .i64 (m2 : Int))), ty2, ps2, af2, none⟩)
    (hd : d1 ≠ d2) (ht1 : selB P t1 et1 k1 = true) (ht2 : selB P t2 et2 k2 = true) (hz1 : zeroB P et1 z1) (hz2 : zeroB P et2 z2) (hn1 : z1 ≠ []) (hn2 : z2 ≠ []) (hm1 : m1 ≤ 1000000) (hm2 : m2 ≤ 1000000) (hk1 : Nat.ble k1 16 = true) (hk2 : Nat.ble k2 16 = true) (hb1 : (P.info? et1).any (fun i => Nat.ble i.bytes 1000) = true) (hb2 : (P.info? et2).any (fun i => Nat.ble i.bytes 1000) = true)
    (hS : ∀ w1, Fram none' w w1 → S w1)
    (K : ∀ b1 b2 w1, w.heap.size ≤ b1 → w.heap.size ≤ b2 → b1 ≠ b2 → FB w1.heap b1 (m1 * k1) (zc z1) et1 → FB w1.heap b2 (m2 * k2) (zc z2) et2 → Fram none' w w1 → WQ P ops Q S last r (Fr n (upd (upd e d1 (.slice (some ⟨b1, 0, none⟩) m1 m1)) d2 (.slice (some ⟨b2, 0, none⟩) m2 m2)) []) w1) :
    WFk P ops Q S last i j ((j, true) :: r) ((i, true) :: r) [] (Fr n e []) w := by
  refine wf_fork ?_ ?_
  · refine ql_make (len := m1) (cap := m1) hi rfl rfl ht1 hz1 hn1 (Nat.le_refl _) hm1 hk1 hb1 hS (fun b1 w1 g1 B1 F1 => ?_)
    refine ql_make (len := m2) (cap := m2) hj rfl rfl ht2 hz2 hn2 (Nat.le_refl _) hm2 hk2 hb2 (fun w2 F2 => hS _ (F1.trans F2)) (fun b2 w2 g2 B2 F2 => ?_)
    have := Blk.lt B1
    exact K b1 b2 w2 g1 (by have := F1.size; omega) (by omega) (F2.blkN B1) B2 (F1.trans F2)
  · refine ql_make (len := m2) (cap := m2) hj rfl rfl ht2 hz2 hn2 (Nat.le_refl _) hm2 hk2 hb2 hS (fun b2 w1 g1 B2 F1 => ?_)
    refine ql_make (len := m1) (cap := m1) hi rfl rfl ht1 hz1 hn1 (Nat.le_refl _) hm1 hk1 hb1 (fun w2 F2 => hS _ (F1.trans F2)) (fun b1 w2 g2 B1 F2 => ?_)
    have := Blk.lt B2
    rw [upd_swap hd]
    exact K b1 b2 w2 (by have := F1.size; omega) g1 (by omega) B1 (F2.blkN B2) (F1.trans F2)

/-- A call whose answer is a pair; its first part goes into a new block. -/
theorem wf_cx {i i1 i2 i3 j js d0 d1 dx dy d2 dz m : Nat} {t f : Nat} {z : List Value} {args : List Operand} {ats : Array TypeId} {vs : List Value} {R : Value → World → Prop} {G : Nat → Prop} {v2 : Value} {ty1 ty2 ty3 ty4 ty5 ty6 ty7 : TypeId} {ps1 ps2 ps3 ps4 ps5 ps6 ps7 : String} {af1 af2 af3 af4 af5 af6 af7 : Array Edge}
    (hi : ops[i]? = some ⟨some d1, .call ⟨.value (.func f), args.toArray, ats⟩, ty1, ps1, af1, none⟩)
    (hi1 : ops[i1]? = some ⟨some d0, .move (.tmp d1), ty4, ps4, af4, none⟩)
    (hi2 : ops[i2]? = some ⟨some dx, .extract (.tmp d0) 0, ty5, ps5, af5, none⟩)
    (hi3 : ops[i3]? = some ⟨some dy, .extract (.tmp d0) 1, ty6, ps6, af6, none⟩)
    (hj : ops[j]? = some ⟨some d2, .alloc t, ty2, ps2, af2, none⟩)
    (hl : ops[js]? = some ⟨none, .store t (.tmp d2) (.tmp dx), ty3, ps3, af3, none⟩)
    (hz' : ops[last]? = some ⟨some dz, .assign (.tmp dy), ty7, ps7, af7, none⟩)
    (hd : d2 ≠ d1 ∧ d2 ≠ d0 ∧ d2 ≠ dx ∧ d2 ≠ dy ∧ d0 ≠ d1 ∧ d0 ≠ dx ∧ dx ≠ dy) (hdn : d0 < n ∧ d1 < n ∧ dx < n ∧ dy < n ∧ d2 < n) (ha : evArgs n e args = some vs) (ha2 : ∀ v, evArgs n (upd e d2 v) args = some vs) (hf : Enters P f) (hz : zeroB P t z) (hsz : sizeB P t m = true) (hzl : z.length = m)
    (hc : ∀ w1, Fram none' w w1 → Ret P f vs w1 (fun v u => R v u ∧ Fram G w1 u))
    (hst : ∀ v u u', R v u → Fram none' u u' → R v u')
    (hG : ∀ b, G b → b < w.heap.size)
    (hv : ∀ v u, R v u → ∃ cs : List Value, v = .tuple #[.agg cs.toArray, v2] ∧ cs.length = m ∧ ∀ x ∈ cs, x.oneCell' = true)
    (hS : ∀ u, Fram none' w u → S u) (hS2 : ∀ v u, R v u → S u) (hS3 : ∀ v u b u', R v u → w.heap.size ≤ b → Fram (one b) u u' → S u') (hsz2 : ∀ v u, R v u → w.heap.size ≤ u.heap.size)
    (k : ∀ (cs : List Value) (u : World) (b : Nat) (u' : World), R (.tuple #[.agg cs.toArray, v2]) u → cs.length = m → w.heap.size ≤ b → Blk u.heap b z t → Blk u'.heap b cs t → Fram (one b) u u' → Q .normal (Fr n (upd (upd (upd (upd (upd (upd e d1 (.tuple #[.agg cs.toArray, v2])) d0 (.tuple #[.agg cs.toArray, v2])) dx (.agg cs.toArray)) dy v2) d2 (ptr b)) dz v2) []) u') :
    WFk P ops Q S last i j [(i1, false), (i2, false), (i3, false), (j, true), (js, true)] [(i, true), (i1, false), (i2, false), (i3, false), (js, true)] [] (Fr n e []) w := by
  obtain ⟨g1, g2, g3, g4, g5, g6, g7⟩ := hd
  obtain ⟨n0, n1, nx, ny, n2⟩ := hdn
  refine wf_fork ?_ ?_
  · refine ql_call hi ha hf (hc w (Fram.refl _ _)) ?_
    rintro v u ⟨hR, hFr⟩
    obtain ⟨cs, rfl, hcl, hco⟩ := hv v u hR
    refine ⟨hS2 _ _ hR, ?_⟩
    refine ql_ro hi1 (fun w _ => ro_move (by rw [evO_tmp n1, upd_at])) ?_
    refine ql_ro hi2 (fun w _ => ro_extract (v := .agg cs.toArray) (by rw [evO_tmp n0, upd_at]) rfl) ?_
    refine ql_ro hi3 (fun w _ => ro_extract (v := v2) (by rw [evO_tmp n0, upd_no g6, upd_at]) rfl) ?_
    refine ql_new hj hz (fun w1 F => hS2 _ _ (hst _ _ _ hR F)) (fun b w1 hb hB F => ?_)
    have hsu := hsz2 _ _ hR
    refine ql_putam hl (j := 0) (b := b) (cs := cs) ?_ ?_ hco hsz hcl hB (by omega) (l' := cs) ?_ (fun w2 hB2 F2 => hS3 _ _ b _ (hst _ _ _ hR F) (by omega) F2) (fun w2 hB2 F2 => ?_)
    · rw [evO_tmp n2, upd_at]; rfl
    · rw [evO_tmp nx, upd_no (Ne.symm g3), upd_no g7, upd_at]
    · simp only [List.take_zero, List.nil_append, Nat.zero_add]
      rw [List.drop_eq_nil_of_le (by omega), List.append_nil]
    · refine ql_lastE hz' (ro_assign (v := v2) ?_) ?_
      · rw [evO_tmp ny, upd_no (Ne.symm g4), upd_at]
      · exact k cs w1 b w2 (hst _ _ _ hR F) hcl (by omega) hB hB2 F2
  · refine ql_new hj hz (fun w1 F => hS _ F) (fun b w1 hb hB F => ?_)
    refine ql_call hi (ha2 _) hf (hc w1 F) ?_
    rintro v u ⟨hR, hFr⟩
    obtain ⟨cs, rfl, hcl, hco⟩ := hv v u hR
    refine ⟨hS2 _ _ hR, ?_⟩
    have hB' : Blk u.heap b z t := hB.fram hFr (fun h => by have := hG b h; omega)
    refine ql_ro hi1 (fun w _ => ro_move (by rw [evO_tmp n1, upd_at])) ?_
    refine ql_ro hi2 (fun w _ => ro_extract (v := .agg cs.toArray) (by rw [evO_tmp n0, upd_at]) rfl) ?_
    refine ql_ro hi3 (fun w _ => ro_extract (v := v2) (by rw [evO_tmp n0, upd_no g6, upd_at]) rfl) ?_
    refine ql_putam hl (j := 0) (b := b) (cs := cs) ?_ ?_ hco hsz hcl hB' (by omega) (l' := cs) ?_ (fun w2 hB2 F2 => hS3 _ _ b _ hR hb F2) (fun w2 hB2 F2 => ?_)
    · rw [evO_tmp n2, upd_no g4, upd_no g3, upd_no g2, upd_no g1, upd_at]; rfl
    · rw [evO_tmp nx, upd_no g7, upd_at]
    · simp only [List.take_zero, List.nil_append, Nat.zero_add]
      rw [List.drop_eq_nil_of_le (by omega), List.append_nil]
    · refine ql_lastE hz' (ro_assign (v := v2) ?_) ?_
      · rw [evO_tmp ny, upd_at]
      · rw [upd_swap (Ne.symm g1), upd_swap (Ne.symm g2), upd_swap (Ne.symm g3), upd_swap (Ne.symm g4)]
        exact k cs u b w2 hR hcl (by omega) hB' hB2 F2
end
end Go.Proofs.Qxb6500568aGreatDoor
