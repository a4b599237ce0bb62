import Derived.Test.Qxb6500568aGreatDoorJh
/- The image: put, put16. -/
namespace Go.Proofs.Qxb6500568aGreatDoor
open Ieee
set_option linter.unusedVariables false
set_option linter.unusedSimpArgs false
set_option linter.unusedSectionVars false

section
variable {P : Program} {n : Nat} {e : Nat → Option Value} {w : World}
theorem by8_nat (a : Nat) : (by8 a).toNat = a % 256 := by unfold by8; simp [UInt8.toNat_ofNat']
theorem u8_by8 {x : Nat} (h : x < 256) : u8n x = u8c (by8 x) := by
  unfold u8n u8c
  rw [by8_nat, Nat.mod_eq_of_lt h]
theorem ro_convB {src : TypeId} {x : Operand} {k' : IntKind} {a : Nat} {dst : TypeId} (hx : evO n e x = some (.int k' (a : Int))) (hs : scalB P src = true) (hd : intB P dst .u8 = true) : RO P n e w (.convert src dst x) (u8c (by8 a)) := by
  have e1 : u8c (by8 a) = .int .u8 (IntKind.u8.wrap (a : Int)) := by
    unfold u8c
    congr 1
  rw [e1]
  intro ds dst' ty ps af g
  have hd' := intB_spec hd
  have hsome : ∃ d, P.underlying src = some d := by
    unfold scalB at hs
    cases hu : P.underlying src with
    | none => rw [hu] at hs; cases hs
    | some d => exact ⟨d, rfl⟩
  obtain ⟨d, hd2⟩ := hsome
  simp [execOp, evO_eval hx, convert, run_underlying hd2, run_underlying hd', Conv.intToInt]
theorem ro_sliceA0 {t len et k b o : Nat} {x : Operand} (hx : evO n e x = some (.pointer (some ⟨b, o, none⟩))) (ht : arrB P t len et k = true) : RO P n e w (.slice t x none none none) (.slice (some ⟨b, o, none⟩) len len) := by
  intro ds dst ty ps af g
  obtain ⟨t1, t2⟩ := arrB_spec ht
  simp [execOp, evO_eval hx, Instr.sliceAt, run_underlying t1, Instr.sureAddr, Instr.sliceBounds, Instr.sliceBound, asIntOf, run_sizeOf t2, addr_add, Addr.add]
theorem eo_by1 {t et : Nat} {x : Operand} {a : UInt8} (hx : evO n e x = some (u8c a)) (ht : selB P t et 1 = true) (hz : ∃ z, zeroB P et z ∧ z.length = 1) :
    EO P n e w (.buildSlice t 1 #[(0, x)]) (.slice (some ⟨w.heap.size, 0, none⟩) 1 1) (w.alloc (.cells ([a].map u8c).toArray et)) := by
  intro ds dst ty ps af g
  obtain ⟨t1, t2⟩ := selB_spec ht
  obtain ⟨z, ⟨j, zv, z1, z2, z3⟩, zl⟩ := hz
  match z, zl with
  | [z0], _ => simp [execOp, evO_eval hx, Instr.buildSlice, run_underlying t1, run_sizeOf t2, zeroValue, typeInfo, z1, z2, z3, Instr.fill, newRow, Array.range_succ, Array.range_zero', u8c, Value.cells]
theorem eo_by2 {t et : Nat} {x y : Operand} {a b : UInt8} (hx : evO n e x = some (u8c a)) (hy : evO n e y = some (u8c b)) (ht : selB P t et 1 = true) (hz : ∃ z, zeroB P et z ∧ z.length = 1) :
    EO P n e w (.buildSlice t 2 #[(0, x), (1, y)]) (.slice (some ⟨w.heap.size, 0, none⟩) 2 2) (w.alloc (.cells ([a, b].map u8c).toArray et)) := by
  intro ds dst ty ps af g
  obtain ⟨t1, t2⟩ := selB_spec ht
  obtain ⟨z, ⟨j, zv, z1, z2, z3⟩, zl⟩ := hz
  match z, zl with
  | [z0], _ => simp [execOp, evO_eval hx, evO_eval hy, Instr.buildSlice, run_underlying t1, run_sizeOf t2, zeroValue, typeInfo, z1, z2, z3, Instr.fill, newRow, Array.range_succ, Array.range_zero', u8c, Value.cells]
theorem eo_by3 {t et : Nat} {x y x3 : Operand} {a b c : UInt8} (hx : evO n e x = some (u8c a)) (hy : evO n e y = some (u8c b)) (h3 : evO n e x3 = some (u8c c)) (ht : selB P t et 1 = true) (hz : ∃ z, zeroB P et z ∧ z.length = 1) :
    EO P n e w (.buildSlice t 3 #[(0, x), (1, y), (2, x3)]) (.slice (some ⟨w.heap.size, 0, none⟩) 3 3) (w.alloc (.cells ([a, b, c].map u8c).toArray et)) := by
  intro ds dst ty ps af g
  obtain ⟨t1, t2⟩ := selB_spec ht
  obtain ⟨z, ⟨j, zv, z1, z2, z3⟩, zl⟩ := hz
  match z, zl with
  | [z0], _ => simp [execOp, evO_eval hx, evO_eval hy, evO_eval h3, Instr.buildSlice, run_underlying t1, run_sizeOf t2, zeroValue, typeInfo, z1, z2, z3, Instr.fill, newRow, Array.range_succ, Array.range_zero', u8c, Value.cells]
end
def lyF (E : ZEnv) (ow : Nat → Nat) : Nat → Prop := fun b => b = E.cb ∨ ow b = 302
/-- the image under way. -/
structure ZLB (E : ZEnv) (w0 : World) (ow : Nat → Nat) (O : List Nat) (u : World) (bs : Str) : Prop where
  ex : ∃ V ow', Xt w0 ow ow' ∧ Fram (lyF E ow) w0 u ∧ Blk u.heap E.cb [E.sp, E.dp, E.nv, .slice (some ⟨E.gb, 0, none⟩) 13 13, i64c (mx O), V] 94 ∧ OwT u ow' 302 V 5 1 bs.length (bs.map u8c) ∧ ∀ b, u.heap.size ≤ b → ow' b = 66
/-- what a put keeps. -/
def ZPK (E : ZEnv) (u u' : World) : Prop := ∀ b l t, Nat.beq t 5 = false → b ≠ E.cb → Blk u.heap b l t → Blk u'.heap b l t
section
variable {E : ZEnv} {w0 u u' : World} {ow : Nat → Nat} {O : List Nat} {bs new : Str}
theorem ZPK.trans {u2 : World} (h : ZPK E u u') (k : ZPK E u' u2) : ZPK E u u2 := fun b l t h1 h2 h3 => k b l t h1 h2 (h b l t h1 h2 h3)
theorem ZLB.thruN (h : ZLB E w0 ow O u bs) (f : Fram none' u u') : ZLB E w0 ow O u' bs := by
  obtain ⟨V, ow', x1, f1, h1, h2, h3⟩ := h.ex
  exact ⟨V, ow', x1, f1.trans' f (fun _ _ y => y.elim), f.blkN h1, h2.far f (fun _ _ _ y => y) (Xt.refl _ _), fun b hb => h3 b (by have := f.size; omega)⟩
theorem ZLB.cbl (h : ZLB E w0 ow O u bs) (hc : E.cb < w0.heap.size) : True := trivial
/-- the buffer grown. -/
theorem ZLB.grow (h : ZLB E w0 ow O u bs) {V v' : Value} {ow' : Nat → Nat} {u1 u2 : World} (x1 : Xt w0 ow ow') (f1 : Fram (lyF E ow) w0 u) (h2 : OwT u ow' 302 V 5 1 bs.length (bs.map u8c)) (hc : Blk u.heap E.cb [E.sp, E.dp, E.nv, .slice (some ⟨E.gb, 0, none⟩) 13 13, i64c (mx O), V] 94) (hon : Own u1.heap v' 5 1 (bs.length + new.length) (bs.map u8c ++ new.map u8c)) (G1 : Fram (own1 V) u u1) (hnb : nob V v' u) (fr : Fram (one E.cb) u1 u2) (hB : Blk u2.heap E.cb [E.sp, E.dp, E.nv, .slice (some ⟨E.gb, 0, none⟩) 13 13, i64c (mx O), v'] 94) : ZLB E w0 ow O u2 (bs ++ new) ∧ ZPK E u u2 := by
  have hu1 := G1.size
  have hu2 := fr.size
  have hf1 := f1.size
  have hcl := hc.lt
  have hVc : ∀ b, V.ownBlock = some b → b ≠ E.cb := fun b y e => by
    subst e
    rcases h2.o.2 with ⟨z1, z2⟩ | ⟨g, cap, l, z1, z2, -⟩
    · rw [z1] at y; cases y
    · rw [z1] at y; cases y
      exact absurd (Blk.uniq z2 hc).2 (by decide)
  have hvc : ∀ b, v'.ownBlock = some b → b ≠ E.cb := fun b y => by
    rcases hnb b y with z | z
    · exact hVc b z
    · omega
  refine ⟨⟨v', cut66 u2 (nw ow' u.heap.size 302), fun b hb => by rw [cut66_xt _ _ b (by omega), nw_old (by omega)]; exact x1 b hb, ?_, hB, ?_, cut66_df _ _⟩, fun b l t ht hb hk => ?_⟩
  · refine (f1.transG G1 (fun b hb y => .inr ?_)).trans' fr (fun b _ y => .inl y)
    have := h2.t b y
    rw [x1 b hb] at this
    exact this
  · rw [List.map_append, List.length_append]
    have k1 := h2.grow hon hnb hu1
    exact OwT.cut ⟨k1.o.fram fr (fun b y z => hvc b y z), k1.t⟩
  · refine fr.blkO (G1.blkF hk (fun y => ?_)) hb
    rcases h2.o.2 with ⟨z1, z2⟩ | ⟨g, cap, l, z1, z2, -⟩
    · rw [z1] at y; cases y
    · rw [z1] at y; cases y
      have := (Blk.uniq z2 hk).2
      subst this
      cases ht
set_option maxHeartbeats 4000000 in
theorem put81 (h : ZLB E w0 ow O u bs) {nb nt o m2 c2 : Nat} {l2 : List Value} (hI : Blk u.heap nb l2 nt) (h2 : (l2.drop o).take (m2 * 1) = new.map u8c) (hm2 : new.length = m2) (hb : bs.length + new.length ≤ 100000) :
    Ret Tryz.prog 81 [ptr E.cb, .slice (some ⟨nb, o, none⟩) m2 c2] u (fun r u' => r = .tuple #[] ∧ ZLB E w0 ow O u' (bs ++ new) ∧ ZPK E u u') := by
  obtain ⟨V, ow', x1, f1, hC, hV, hd⟩ := h.ex
  have hC0 := hC
  obtain ⟨va, vc, rfl⟩ := hV.form
  have hVc : ¬ own1 (.slice va bs.length vc) E.cb := fun y => by
    rcases hV.o.2 with ⟨z1, z2⟩ | ⟨g, cap, l, z1, z2, -⟩
    · injection z1 with za; subst za; cases y
    · injection z1 with za; subst za; cases y
      exact absurd (Blk.uniq z2 hC).2 (by decide)
  refine ret_of Tryz.func81 rfl Tryz.ntmps81 rfl ?_
  refine c_reg ?_ -- region 0 comp.go:58
  refine wl (ro_move rfl) ?_
  refine wl (ro_move rfl) ?_
  refine wl (ro_nilCheck rfl) ?_
  refine wl (ro_fieldAddr (k := 5) rfl fo_94_5) ?_
  refine wl (ro_loadB rfl sc_70 (by assumption) rfl) ?_
  refine wl (ro_move rfl) ?_
  refine wl_app (t := 70) (et := 5) (k := 1) (m := bs.length) (news := new.map u8c) rfl rfl se_70 zx_5 by_5 rfl hV.o hI h2 (by rw [List.length_map]; omega) (by intro x hx; obtain ⟨y, _, rfl⟩ := List.mem_map.1 hx; rfl) (by omega) (by omega) ?_
  intro v' u1 hon hg hloc
  have G1 : Fram (own1 (.slice va bs.length vc)) u u1 := Fram.grown hg (fun k hk => .inl hk)
  have hnb : nob (.slice va bs.length vc) v' u := fun b hb => by
    rcases hloc with h | h
    · rw [h] at hb; exact .inl hb
    · rw [h] at hb; cases hb; exact .inr (Nat.le_refl _)
  rw [← hm2] at hon
  replace hC := G1.blkF hC hVc
  have hvo := hon.form
  obtain ⟨va', vc', rfl⟩ := hvo
  refine wl (ro_nilCheck rfl) ?_
  refine wl (ro_fieldAddr (k := 5) rfl fo_94_5) ?_
  refine wl_put rfl rfl rfl sz_70 hC (by simp) (rfl) (fun w1 hC F1 => ?_)
  have hF3 := (F1)
  refine wl_nil ?_
  refine bp_end Tryz.results81 rfl ?_
  exact ⟨rfl, h.grow x1 f1 hV hC0 hon G1 hnb hF3 hC⟩
end
section
variable {n : Nat} {e : Nat → Option Value} {ds : List Deferred} {u : World} {ops : Array Oper} {Q : Exit → Act → World → Prop} {rest : List Oper} {d1 d2 : Nat} {op : Op} {ty1 ty2 : TypeId} {ps1 ps2 : String} {af1 af2 : Array Edge}
  {E : ZEnv} {w0 : World} {ow : Nat → Nat} {O : List Nat} {bs new : Str}
theorem wl_pt {fp : Operand} {ats : Array TypeId} {m : Nat} (hb : EO Tryz.prog n e u op (.slice (some ⟨u.heap.size, 0, none⟩) m m) (u.alloc (.cells (new.map u8c).toArray 5))) (hm : new.length = m) (h : ZLB E w0 ow O u bs) (ha : evArgs n (upd e d1 (.slice (some ⟨u.heap.size, 0, none⟩) m m)) [fp, .tmp d1] = some [ptr E.cb, .slice (some ⟨u.heap.size, 0, none⟩) m m]) (hl : bs.length + new.length ≤ 100000)
    (K : ∀ u', ZLB E w0 ow O u' (bs ++ new) → ZPK E u u' → WL Tryz.prog ops Q rest (Fr n (upd (upd e d1 (.slice (some ⟨u.heap.size, 0, none⟩) m m)) d2 (.tuple #[])) ds) u') :
    WL Tryz.prog ops Q (⟨some d1, op, ty1, ps1, af1, none⟩ :: ⟨some d2, .call ⟨.value (.func 81), #[fp, .tmp d1], ats⟩, ty2, ps2, af2, none⟩ :: rest) (Fr n e ds) u := by
  refine wle hb ?_
  have hF : Fram none' u (u.alloc (.cells (new.map u8c).toArray 5)) := Fram.alloc none' u _
  refine wl_call ha en_81 (put81 (h.thruN hF) (new := new) (Blk.new u (new.map u8c) 5) (by rw [List.drop_zero, List.take_of_length_le (by rw [List.length_map]; omega)]) hm hl) ?_
  rintro _ u' ⟨rfl, h1, h2⟩
  exact K u' h1 (fun b l t q1 q2 q3 => h2 b l t q1 q2 (hF.blkN q3))
end
section
variable {E : ZEnv} {w0 u u' : World} {ow : Nat → Nat} {O : List Nat} {bs new : Str}
set_option maxHeartbeats 4000000 in
theorem put82 (h : ZLB E w0 ow O u bs) {x : Nat} (hb : bs.length + 2 ≤ 100000) (hx : x < 65536) : Ret Tryz.prog 82 [ptr E.cb, i64c x] u (fun r u' => r = .tuple #[] ∧ ZLB E w0 ow O u' (bs ++ by16 x) ∧ ZPK E u u') := by
  refine ret_of Tryz.func82 rfl Tryz.ntmps82 rfl ?_
  refine c_reg ?_ -- region 0 comp.go:61
  refine wl (ro_move rfl) ?_
  refine wl (ro_move rfl) ?_
  refine wl (ro_convB rfl sc_3 in_5) ?_
  refine wl (ro_move rfl) ?_
  refine wl (ro_shrN (b := 8) rfl rfl (by decide)) ?_
  refine wl (ro_convB rfl sc_3 in_5) ?_
  refine wl_pt (new := by16 x) (eo_by2 rfl rfl se_70 zx_5) rfl h rfl (by show bs.length + 2 ≤ _; omega) ?_
  intro u1 h1 k1
  skip
  refine wl_nil ?_
  refine bp_end Tryz.results82 rfl ?_
  exact ⟨rfl, h1, k1⟩
end
end Go.Proofs.Qxb6500568aGreatDoor
