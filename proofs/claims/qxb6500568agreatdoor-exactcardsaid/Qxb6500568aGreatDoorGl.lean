import Derived.Test.Qxb6500568aGreatDoorFy
/- Library: a region of any order in which a call of three answers and two new blocks wait side by side. -/
namespace Go.Proofs.Qxb6500568aGreatDoor
set_option linter.unusedVariables false
set_option linter.unusedSimpArgs false
section
variable {P : Program} {ops : Array Oper} {Q : Exit → Act → World → Prop} {md : Region.Mode} {S : World → Prop} {last : Nat}

def fls (l : List Nat) : List (Nat × Bool) := l.map fun x => (x, false)
def piH (P : Program) (ops : Array Oper) (Q : Exit → Act → World → Prop) (S : World → Prop) (last c x y : Nat) (πc : List Nat) (T : List (Nat × Bool)) : List Nat → Act → World → Prop
  | [], a, w => wpOp P ops Q c (fun a' w' => S w' ∧ piF P ops Q S last x y ((y, true) :: T) ((x, true) :: T) πc a' w') a w
      ∧ wpOp P ops Q x (fun a' w' => S w' ∧ piF P ops Q S last c y (fls πc ++ (y, true) :: T) ((c, true) :: (fls πc ++ T)) [] a' w') a w
      ∧ wpOp P ops Q y (fun a' w' => S w' ∧ piF P ops Q S last c x (fls πc ++ (x, true) :: T) ((c, true) :: (fls πc ++ T)) [] a' w') a w
  | k :: r, a, w => ∃ o v, ops[k]? = some o ∧ YieldsIf P ops S o v a ∧ piH P ops Q S last c x y πc T r (a.put o.dst v) w
def piHOK (md : Region.Mode) (ops : Array Oper) (last c x y : Nat) (πc : List Nat) (T : List (Nat × Bool)) : List Nat → Array Bool → Bool
  | [], listed => (c != last) && (x != last) && (y != last) && (Region.ready md ops listed == [c, x, y])
      && piFOK md ops last x y ((y, true) :: T) ((x, true) :: T) πc (listed.setIfInBounds c true)
      && piFOK md ops last c y (fls πc ++ (y, true) :: T) ((c, true) :: (fls πc ++ T)) [] (listed.setIfInBounds x true)
      && piFOK md ops last c x (fls πc ++ (x, true) :: T) ((c, true) :: (fls πc ++ T)) [] (listed.setIfInBounds y true)
  | k :: r, listed => (k != last) && depB md ops 9 last k && Region.free md ops listed k && (Region.ready md ops listed).contains k && piHOK md ops last c x y πc T r (listed.setIfInBounds k true)

theorem piH_sound (hs : Region.noSelect ops = true) (hQ : PanOk Q) {c x y : Nat} {πc : List Nat} {T : List (Nat × Bool)} : ∀ (π1 : List Nat) (fuel : Nat) (listed : Array Bool) (a : Act) (w : World), π1.length + πc.length + T.length + 4 ≤ fuel → Cl md ops listed → piHOK md ops last c x y πc T π1 listed = true → S w → piH P ops Q S last c x y πc T π1 a w → wpAnyL P md ops Q S last fuel listed a w
  | [], fuel, listed, a, w, hf, hcl, hk, hS, h => by
    simp only [piHOK, Bool.and_eq_true, beq_iff_eq, bne_iff_ne, ne_eq] at hk
    obtain ⟨⟨⟨⟨⟨⟨k1, k2⟩, k3⟩, k4⟩, k5⟩, k6⟩, k7⟩ := hk
    have hf' : πc.length + T.length + 4 ≤ fuel := by simpa using hf
    have hm : (fls πc).length = πc.length := by simp [fls]
    cases fuel with
    | zero => omega
    | succ fuel =>
      refine ⟨fun h0 => (by rw [k4] at h0; cases h0), fun q hq => ?_⟩
      have hqr := hq
      rw [k4] at hq
      simp only [List.mem_cons, List.not_mem_nil, or_false] at hq
      rcases hq with rfl | rfl | rfl
      · exact wpOp_mono (fun a' w' h' => ⟨fun _ => h'.1, piF_sound hs hQ πc fuel _ a' w' (by simp; omega) (by simp; omega) (cl_set hcl hqr) k5 h'.1 h'.2⟩) h.1
      · exact wpOp_mono (fun a' w' h' => ⟨fun _ => h'.1, piF_sound hs hQ [] fuel _ a' w' (by simp [hm]; omega) (by simp [hm]; omega) (cl_set hcl hqr) k6 h'.1 h'.2⟩) h.2.1
      · exact wpOp_mono (fun a' w' h' => ⟨fun _ => h'.1, piF_sound hs hQ [] fuel _ a' w' (by simp [hm]; omega) (by simp [hm]; omega) (cl_set hcl hqr) k7 h'.1 h'.2⟩) h.2.2
  | k :: r, fuel, listed, a, w, hf, hcl, hk, hS, h => by
    obtain ⟨o, v, hi, hy, hr⟩ := h
    simp only [piHOK, Bool.and_eq_true, bne_iff_ne, ne_eq] at hk
    obtain ⟨⟨⟨⟨k1, k2⟩, k3⟩, k4⟩, k5⟩ := hk
    have hir : k ∈ Region.ready md ops listed := by simpa using k4
    rw [List.length_cons] at hf
    cases fuel with
    | zero => omega
    | succ fuel =>
      refine wpAnyL_first9 hi (Region.noSelect_spec hs) k1 k2 (fun c a' w' hp => hQ c _ _ w' (put_defers_eq a' o.dst v) hp) fuel listed a w hcl (Region.free_spec hi k3) hir hy hS ?_
      exact piH_sound hs hQ r fuel _ _ w (by omega) (cl_set hcl hir) k5 hS hr

structure WHk (P : Program) (ops : Array Oper) (Q : Exit → Act → World → Prop) (S : World → Prop) (last c x y : Nat) (πc : List Nat) (T : List (Nat × Bool)) (π1 : List Nat) (a : Act) (w : World) : Prop where
  out : piH P ops Q S last c x y πc T π1 a w

theorem c_piH {id : Nat} {a : Act} {w : World} (last c x y : Nat) (π1 πc : List Nat) (T : List (Nat × Bool)) (S : World → Prop) (hm : P.follows .mixedOrders = true) (hs : Region.noSelect ops = true) (hl : Nat.ble (π1.length + πc.length + T.length + 4) ops.size = true)
    (hk : piHOK .any ops last c x y πc T π1 (Array.replicate ops.size false) = true) (hQ : PanOk Q) (hS : S { w with drawn := w.drawn + 1 }) (h : WHk P ops Q S last c x y πc T π1 a { w with drawn := w.drawn + 1 }) : WC P (Code.region id ops true) Q a w :=
  ⟨wp_region_any hm (wpAny_of_L _ _ _ _ (piH_sound hs hQ π1 _ _ _ _ (Nat.le_of_ble_eq_true hl) (fun i o _ hl => by
    rcases Nat.lt_or_ge i ops.size with h' | h'
    · simp [h'] at hl
    · simp [h'] at hl) hk hS h.out))⟩

variable {n : Nat} {e e' : Nat → Option Value} {ds : List Deferred} {w u : World}
theorem wh_ro {k d c x y : Nat} {πc : List Nat} {T : List (Nat × Bool)} {r : List Nat} {op : Op} {ty : TypeId} {ps : String} {af : Array Edge} {v : Value} (hi : ops[k]? = some ⟨some d, op, ty, ps, af, none⟩) (h : ∀ w, S w → RO P n e w op v) (k' : WHk P ops Q S last c x y πc T r (Fr n (upd e d v) ds) w) : WHk P ops Q S last c x y πc T (k :: r) (Fr n e ds) w :=
  ⟨⟨_, v, hi, .inl ⟨rfl, fun w hw => h w hw ds _ _ _ _ _⟩, by rw [put_some]; exact k'.out⟩⟩

theorem wo_new {i d : Nat} {ty : TypeId} {ps : String} {af : Array Edge} {M : Act → World → Prop} {t : TypeId} {z : List Value} (hi : ops[i]? = some ⟨some d, .alloc t, ty, ps, af, none⟩) (hz : zeroB P t z) (hS : ∀ w1, Fram none' w w1 → S w1)
    (k : ∀ b w1, w.heap.size ≤ b → Blk w1.heap b z t → Fram none' w w1 → M (Fr n (upd e d (ptr b)) ds) w1) : wpOp P ops Q i (fun a' w' => S w' ∧ M a' w') (Fr n e ds) w := by
  unfold wpOp
  rw [hi]
  simp only [Region.wanted, if_true]
  refine .inl ?_
  unfold Oper.wp
  rw [eo_alloc hz ds]
  simp only [Oper.upon, put_some]
  exact ⟨hS _ (Fram.alloc _ _ _), k w.heap.size _ (Nat.le_refl _) (Blk.new w z t) (Fram.alloc none' w _)⟩
theorem wo_call {i d : Nat} {ty : TypeId} {ps : String} {af : Array Edge} {M : Act → World → Prop} {f : FuncId} {args : List Operand} {ats : Array TypeId} {vs : List Value} {R : Value → World → Prop} (hi : ops[i]? = some ⟨some d, .call ⟨.value (.func f), args.toArray, ats⟩, ty, ps, af, none⟩) (ha : evArgs n e args = some vs) (hf : Enters P f) (hc : Ret P f vs w R)
    (k : ∀ v w', R v w' → S w' ∧ M (Fr n (upd e d v) ds) w') : wpOp P ops Q i (fun a' w' => S w' ∧ M a' w') (Fr n e ds) w := by
  unfold wpOp
  rw [hi]
  simp only [Region.wanted, if_true]
  refine .inl ?_
  unfold Oper.wp
  rw [run_call ha hf]
  simp only [Oper.upon]
  refine Calls.mono hc fun en w' ⟨v, he, hv⟩ => ?_
  subst he
  simp only [put_some]
  exact k v w' hv

section
variable {i i1 i2 i3 i4 d0 d1 dx dy dz m sA sB A B dA dB dl : Nat} {t : Nat} {z cs1 cs2 : List Value} {v3 V : Value} {ty1 ty2 ty3 ty4 ty5 ty6 ty7 ty8 ty9 ty10 : TypeId} {ps1 ps2 ps3 ps4 ps5 ps6 ps7 ps8 ps9 ps10 : String} {af1 af2 af3 af4 af5 af6 af7 af8 af9 af10 : Array Edge}

theorem nx_tail {b1 b2 : Nat} (hsA : ops[sA]? = some ⟨none, .store t (.tmp dA) (.tmp dx), ty1, ps1, af1, none⟩) (hsB : ops[sB]? = some ⟨none, .store t (.tmp dB) (.tmp dy), ty2, ps2, af2, none⟩) (hz' : ops[last]? = some ⟨some dl, .assign (.tmp dz), ty3, ps3, af3, none⟩)
    (hdn : dx < n ∧ dy < n ∧ dz < n ∧ dA < n ∧ dB < n) (hA : e' dA = some (ptr b1)) (hB : e' dB = some (ptr b2)) (hx : e' dx = some (.agg cs1.toArray)) (hy : e' dy = some (.agg cs2.toArray)) (hz : e' dz = some v3)
    (hsz : sizeB P t m = true) (hzl : z.length = m) (hc1 : cs1.length = m) (hc2 : cs2.length = m) (ho1 : ∀ x ∈ cs1, x.oneCell' = true) (ho2 : ∀ x ∈ cs2, x.oneCell' = true)
    (hb1 : w.heap.size ≤ b1) (hb2 : w.heap.size ≤ b2) (hne : b1 ≠ b2) (B1 : Blk u.heap b1 z t) (B2 : Blk u.heap b2 z t) (F : Fram none' w u) (hS : ∀ u, Fram none' w u → S u)
    (K : ∀ u', Blk u'.heap b1 cs1 t → Blk u'.heap b2 cs2 t → Fram none' w u' → Q .normal (Fr n (upd e' dl v3) []) u') : WQ P ops Q S last [(sA, true), (sB, true)] (Fr n e' []) u := by
  obtain ⟨nx, ny, nz, nA, nB⟩ := hdn
  refine ql_putam hsA (j := 0) (b := b1) (cs := cs1) (by rw [evO_tmp nA]; exact hA) (by rw [evO_tmp nx]; exact hx) ho1 hsz hc1 B1 (by omega) (l' := cs1) (by
    simp only [List.take_zero, List.nil_append, Nat.zero_add]
    rw [List.drop_eq_nil_of_le (by omega), List.append_nil]) (fun u1 _ F1 => hS _ (F.trans' F1 (fun c hc q => absurd hc (by have q : c = b1 := q; omega)))) (fun u1 B1' F1 => ?_)
  have F' : Fram none' w u1 := F.trans' F1 (fun c hc q => absurd hc (by have q : c = b1 := q; omega))
  have B2' : Blk u1.heap b2 z t := B2.fram F1 (fun q => hne (by have q : b2 = b1 := q; omega))
  refine ql_putam hsB (j := 0) (b := b2) (cs := cs2) (by rw [evO_tmp nB]; exact hB) (by rw [evO_tmp ny]; exact hy) ho2 hsz hc2 B2' (by omega) (l' := cs2) (by
    simp only [List.take_zero, List.nil_append, Nat.zero_add]
    rw [List.drop_eq_nil_of_le (by omega), List.append_nil]) (fun u2 _ F2 => hS _ (F'.trans' F2 (fun c hc q => absurd hc (by have q : c = b2 := q; omega)))) (fun u2 B2'' F2 => ?_)
  refine ql_lastE hz' (ro_assign (v := v3) (by rw [evO_tmp nz]; exact hz)) ?_
  exact K u2 (B1'.fram F2 (fun q => hne (by have q : b1 = b2 := q; omega))) B2'' (F'.trans' F2 (fun c hc q => absurd hc (by have q : c = b2 := q; omega)))

theorem nx_rd {r : List (Nat × Bool)} (hV : V = .tuple #[.agg cs1.toArray, .agg cs2.toArray, v3])
    (hi1 : ops[i1]? = some ⟨some d0, .move (.tmp d1), ty1, ps1, af1, none⟩) (hi2 : ops[i2]? = some ⟨some dx, .extract (.tmp d0) 0, ty2, ps2, af2, none⟩) (hi3 : ops[i3]? = some ⟨some dy, .extract (.tmp d0) 1, ty3, ps3, af3, none⟩) (hi4 : ops[i4]? = some ⟨some dz, .extract (.tmp d0) 2, ty4, ps4, af4, none⟩)
    (hdn : d0 < n ∧ d1 < n) (hd : d0 ≠ dx ∧ d0 ≠ dy) (h1 : e' d1 = some V)
    (k : WQ P ops Q S last r (Fr n (upd (upd (upd (upd e' d0 V) dx (.agg cs1.toArray)) dy (.agg cs2.toArray)) dz v3) []) u) : WQ P ops Q S last ((i1, false) :: (i2, false) :: (i3, false) :: (i4, false) :: r) (Fr n e' []) u := by
  subst hV
  refine ql_ro hi1 (fun w _ => ro_move (by rw [evO_tmp hdn.2]; exact h1)) ?_
  refine ql_ro hi2 (fun w _ => ro_extract (v := .agg cs1.toArray) (by rw [evO_tmp hdn.1, upd_at]) rfl) ?_
  refine ql_ro hi3 (fun w _ => ro_extract (v := .agg cs2.toArray) (by rw [evO_tmp hdn.1, upd_no hd.1, upd_at]) rfl) ?_
  exact ql_ro hi4 (fun w _ => ro_extract (v := v3) (by rw [evO_tmp hdn.1, upd_no hd.2, upd_no hd.1, upd_at]) rfl) k
theorem nx_rdF {c x : Nat} {π2 π3 : List (Nat × Bool)} (hV : V = .tuple #[.agg cs1.toArray, .agg cs2.toArray, v3])
    (hi1 : ops[i1]? = some ⟨some d0, .move (.tmp d1), ty1, ps1, af1, none⟩) (hi2 : ops[i2]? = some ⟨some dx, .extract (.tmp d0) 0, ty2, ps2, af2, none⟩) (hi3 : ops[i3]? = some ⟨some dy, .extract (.tmp d0) 1, ty3, ps3, af3, none⟩) (hi4 : ops[i4]? = some ⟨some dz, .extract (.tmp d0) 2, ty4, ps4, af4, none⟩)
    (hdn : d0 < n ∧ d1 < n) (hd : d0 ≠ dx ∧ d0 ≠ dy) (h1 : e' d1 = some V)
    (k : WFk P ops Q S last c x π2 π3 [] (Fr n (upd (upd (upd (upd e' d0 V) dx (.agg cs1.toArray)) dy (.agg cs2.toArray)) dz v3) []) u) : WFk P ops Q S last c x π2 π3 [i1, i2, i3, i4] (Fr n e' []) u := by
  subst hV
  refine wf_ro hi1 (fun w _ => ro_move (by rw [evO_tmp hdn.2]; exact h1)) ?_
  refine wf_ro hi2 (fun w _ => ro_extract (v := .agg cs1.toArray) (by rw [evO_tmp hdn.1, upd_at]) rfl) ?_
  refine wf_ro hi3 (fun w _ => ro_extract (v := .agg cs2.toArray) (by rw [evO_tmp hdn.1, upd_no hd.1, upd_at]) rfl) ?_
  exact wf_ro hi4 (fun w _ => ro_extract (v := v3) (by rw [evO_tmp hdn.1, upd_no hd.2, upd_no hd.1, upd_at]) rfl) k

/-- A call of three answers; the first two go into two new blocks. -/
theorem wh_nx {f : Nat} {args : List Operand} {ats : Array TypeId} {vs : List Value} (V : Value) (cs1 cs2 : List Value) (v3 : Value) (hV : V = .tuple #[.agg cs1.toArray, .agg cs2.toArray, v3])
    (hi : ops[i]? = some ⟨some d1, .call ⟨.value (.func f), args.toArray, ats⟩, ty10, ps10, af10, none⟩)
    (hi1 : ops[i1]? = some ⟨some d0, .move (.tmp d1), ty1, ps1, af1, none⟩) (hi2 : ops[i2]? = some ⟨some dx, .extract (.tmp d0) 0, ty2, ps2, af2, none⟩) (hi3 : ops[i3]? = some ⟨some dy, .extract (.tmp d0) 1, ty3, ps3, af3, none⟩) (hi4 : ops[i4]? = some ⟨some dz, .extract (.tmp d0) 2, ty4, ps4, af4, none⟩)
    (hjA : ops[A]? = some ⟨some dA, .alloc t, ty5, ps5, af5, none⟩) (hjB : ops[B]? = some ⟨some dB, .alloc t, ty6, ps6, af6, none⟩)
    (hsA : ops[sA]? = some ⟨none, .store t (.tmp dA) (.tmp dx), ty7, ps7, af7, none⟩) (hsB : ops[sB]? = some ⟨none, .store t (.tmp dB) (.tmp dy), ty8, ps8, af8, none⟩) (hl : ops[last]? = some ⟨some dl, .assign (.tmp dz), ty9, ps9, af9, none⟩)
    (hd : [d1, d0, dx, dy, dz, dA, dB].Nodup) (hdn : d0 < n ∧ d1 < n ∧ dx < n ∧ dy < n ∧ dz < n ∧ dA < n ∧ dB < n)
    (ha : evArgs n e args = some vs) (haA : ∀ v, evArgs n (upd e dA v) args = some vs) (haB : ∀ v, evArgs n (upd e dB v) args = some vs) (haAB : ∀ v v', evArgs n (upd (upd e dA v) dB v') args = some vs) (haBA : ∀ v v', evArgs n (upd (upd e dB v) dA v') args = some vs)
    (hf : Enters P f) (hz : zeroB P t z) (hsz : sizeB P t m = true) (hzl : z.length = m) (hc1 : cs1.length = m) (hc2 : cs2.length = m) (ho1 : ∀ x ∈ cs1, x.oneCell' = true) (ho2 : ∀ x ∈ cs2, x.oneCell' = true)
    (hc : ∀ w1, Fram none' w w1 → Ret P f vs w1 (fun v u => v = V ∧ Fram none' w1 u)) (hS : ∀ u, Fram none' w u → S u)
    (K : ∀ b1 b2 u, w.heap.size ≤ b1 → w.heap.size ≤ b2 → b1 ≠ b2 → Blk u.heap b1 cs1 t → Blk u.heap b2 cs2 t → Fram none' w u → Q .normal (Fr n (upd (upd (upd (upd (upd (upd (upd (upd e d1 V) d0 V) dx (.agg cs1.toArray)) dy (.agg cs2.toArray)) dz v3) dA (ptr b1)) dB (ptr b2)) dl v3) []) u) :
    WHk P ops Q S last i A B [i1, i2, i3, i4] [(sA, true), (sB, true)] [] (Fr n e []) w := by
  simp only [List.nodup_cons, List.mem_cons, List.not_mem_nil, or_false, not_or, List.nodup_nil, and_true, not_false_eq_true] at hd
  obtain ⟨⟨g1, g2, g3, g4, g5, g6⟩, ⟨g7, g8, g9, g10, g11⟩, ⟨g12, g13, g14, g15⟩, ⟨g16, g17, g18⟩, ⟨g19, g20⟩, g21⟩ := hd
  obtain ⟨n0, n1, nx, ny, nz, nA, nB⟩ := hdn
  have hn5 : dx < n ∧ dy < n ∧ dz < n ∧ dA < n ∧ dB < n := ⟨nx, ny, nz, nA, nB⟩
  have look : ∀ {E : Nat → Option Value} {b1 b2 : Nat}, E = upd (upd (upd (upd (upd (upd (upd e d1 V) d0 V) dx (.agg cs1.toArray)) dy (.agg cs2.toArray)) dz v3) dA (ptr b1)) dB (ptr b2) →
      E dA = some (ptr b1) ∧ E dB = some (ptr b2) ∧ E dx = some (.agg cs1.toArray) ∧ E dy = some (.agg cs2.toArray) ∧ E dz = some v3 := by
    intro E b1 b2 hE
    subst hE
    refine ⟨?_, ?_, ?_, ?_, ?_⟩
    · rw [upd_no g21, upd_at]
    · rw [upd_at]
    · rw [upd_no g15, upd_no g14, upd_no g13, upd_no g12, upd_at]
    · rw [upd_no g18, upd_no g17, upd_no g16, upd_at]
    · rw [upd_no g20, upd_no g19, upd_at]
  have fin : ∀ {E : Nat → Option Value} {b1 b2 : Nat} {u : World}, E = upd (upd (upd (upd (upd (upd (upd e d1 V) d0 V) dx (.agg cs1.toArray)) dy (.agg cs2.toArray)) dz v3) dA (ptr b1)) dB (ptr b2) →
      w.heap.size ≤ b1 → w.heap.size ≤ b2 → b1 ≠ b2 → Blk u.heap b1 z t → Blk u.heap b2 z t → Fram none' w u → WQ P ops Q S last [(sA, true), (sB, true)] (Fr n E []) u := by
    intro E b1 b2 u hE q1 q2 q3 B1 B2 F
    obtain ⟨h1, h2, h3, h4, h5⟩ := look hE
    exact nx_tail hsA hsB hl hn5 h1 h2 h3 h4 h5 hsz hzl hc1 hc2 ho1 ho2 q1 q2 q3 B1 B2 F hS (fun u' B1' B2' F' => hE ▸ K b1 b2 u' q1 q2 q3 B1' B2' F')
  have swA : ∀ (E : Nat → Option Value) (v : Value), upd (upd (upd (upd (upd (upd E dA v) d1 V) d0 V) dx (.agg cs1.toArray)) dy (.agg cs2.toArray)) dz v3 = upd (upd (upd (upd (upd (upd E d1 V) d0 V) dx (.agg cs1.toArray)) dy (.agg cs2.toArray)) dz v3) dA v := fun E v => by
    rw [upd_swap g5, upd_swap g10, upd_swap g14, upd_swap g17, upd_swap g19]
  have swB : ∀ (E : Nat → Option Value) (v : Value), upd (upd (upd (upd (upd (upd E dB v) d1 V) d0 V) dx (.agg cs1.toArray)) dy (.agg cs2.toArray)) dz v3 = upd (upd (upd (upd (upd (upd E d1 V) d0 V) dx (.agg cs1.toArray)) dy (.agg cs2.toArray)) dz v3) dB v := fun E v => by
    rw [upd_swap g6, upd_swap g11, upd_swap g15, upd_swap g18, upd_swap g20]
  have aft : ∀ {r : List (Nat × Bool)} {E : Nat → Option Value} {u : World}, evArgs n E args = some vs → Fram none' w u → (∀ u1, Fram none' u u1 → WQ P ops Q S last r (Fr n (upd (upd (upd (upd (upd E d1 V) d0 V) dx (.agg cs1.toArray)) dy (.agg cs2.toArray)) dz v3) []) u1) →
      WQ P ops Q S last ((i, true) :: (i1, false) :: (i2, false) :: (i3, false) :: (i4, false) :: r) (Fr n E []) u := by
    intro r E u h1 F k
    refine ql_call hi h1 hf (hc u F) ?_
    rintro v u1 ⟨rfl, F1⟩
    exact ⟨hS _ (F.trans F1), nx_rd hV hi1 hi2 hi3 hi4 ⟨n0, n1⟩ ⟨g7, g8⟩ (upd_at _ _ _) (k u1 F1)⟩
  refine ⟨⟨?_, ?_, ?_⟩⟩
  · refine wo_call hi ha hf (hc w (Fram.refl _ _)) ?_
    rintro v u ⟨rfl, F⟩
    refine ⟨hS _ F, (nx_rdF hV hi1 hi2 hi3 hi4 ⟨n0, n1⟩ ⟨g7, g8⟩ (upd_at _ _ _) (wf_fork ?_ ?_)).out⟩
    · refine ql_new hjA hz (fun u1 F1 => hS _ (F.trans F1)) (fun b1 u1 l1 B1 F1 => ?_)
      refine ql_new hjB hz (fun u2 F2 => hS _ ((F.trans F1).trans F2)) (fun b2 u2 l2 B2 F2 => ?_)
      have := B1.lt; have := F.size; have := F1.size
      exact fin rfl (by omega) (by omega) (by omega) (F2.blkN B1) B2 ((F.trans F1).trans F2)
    · refine ql_new hjB hz (fun u1 F1 => hS _ (F.trans F1)) (fun b2 u1 l1 B2 F1 => ?_)
      refine ql_new hjA hz (fun u2 F2 => hS _ ((F.trans F1).trans F2)) (fun b1 u2 l2 B1 F2 => ?_)
      have := B2.lt; have := F.size; have := F1.size
      exact fin (upd_swap g21) (by omega) (by omega) (by omega) B1 (F2.blkN B2) ((F.trans F1).trans F2)
  · refine wo_new hjA hz hS (fun b1 u l1 B1 F => (wf_fork ?_ ?_ : WFk P ops Q S last i B (fls [i1, i2, i3, i4] ++ (B, true) :: [(sA, true), (sB, true)]) ((i, true) :: (fls [i1, i2, i3, i4] ++ [(sA, true), (sB, true)])) [] _ u).out)
    · refine aft (haA _) F (fun u1 F1 => ?_)
      refine ql_new hjB hz (fun u2 F2 => hS _ ((F.trans F1).trans F2)) (fun b2 u2 l2 B2 F2 => ?_)
      have := B1.lt; have := F.size; have := F1.size
      exact fin (by rw [swA]) (by omega) (by omega) (by omega) (F2.blkN (F1.blkN B1)) B2 ((F.trans F1).trans F2)
    · refine ql_new hjB hz (fun u1 F1 => hS _ (F.trans F1)) (fun b2 u1 l2 B2 F1 => ?_)
      refine aft (haAB _ _) (F.trans F1) (fun u2 F2 => ?_)
      have := B1.lt; have := F.size; have := F1.size
      refine fin ?_ (by omega) (by omega) (by omega) (F2.blkN (F1.blkN B1)) (F2.blkN B2) ((F.trans F1).trans F2)
      rw [swB, swA]
  · refine wo_new hjB hz hS (fun b2 u l1 B2 F => (wf_fork ?_ ?_ : WFk P ops Q S last i A (fls [i1, i2, i3, i4] ++ (A, true) :: [(sA, true), (sB, true)]) ((i, true) :: (fls [i1, i2, i3, i4] ++ [(sA, true), (sB, true)])) [] _ u).out)
    · refine aft (haB _) F (fun u1 F1 => ?_)
      refine ql_new hjA hz (fun u2 F2 => hS _ ((F.trans F1).trans F2)) (fun b1 u2 l2 B1 F2 => ?_)
      have := B2.lt; have := F.size; have := F1.size
      refine fin ?_ (by omega) (by omega) (by omega) B1 (F2.blkN (F1.blkN B2)) ((F.trans F1).trans F2)
      rw [swB, upd_swap g21]
    · refine ql_new hjA hz (fun u1 F1 => hS _ (F.trans F1)) (fun b1 u1 l2 B1 F1 => ?_)
      refine aft (haBA _ _) (F.trans F1) (fun u2 F2 => ?_)
      have := B2.lt; have := F.size; have := F1.size
      refine fin ?_ (by omega) (by omega) (by omega) (F2.blkN B1) (F2.blkN (F1.blkN B2)) ((F.trans F1).trans F2)
      rw [swA, swB, upd_swap g21]
end
end
end Go.Proofs.Qxb6500568aGreatDoor
