import Derived.Test.Qxb6500569aGreatXd
/- The real machine runs. -/
namespace Go.Proofs.Qxb6500569aGreat
set_option linter.unusedVariables false
set_option linter.unusedSimpArgs false

theorem gen1 {A C : World → Prop} {w : World} (ha : A w) (h : ∀ w, A w → C w) : C w := h w ha

theorem hd_le {hp : List Nd} (wf : WFH hp) (a : Nat) : (hd hp a).length ≤ 2 := by
  unfold hd
  cases h : hp[deref hp a]? with
  | none => simp
  | some nd =>
    simp only
    by_cases h0 : nd.h = []
    · rw [h0]; simp
    · obtain ⟨⟨f, d, h1, _⟩, _⟩ := wf.str _ _ h h0
      rw [h1]; simp

theorem hdO_le {hp : List Nd} (wf : WFH hp) (o : Option Nat) : (hdO hp o).length ≤ 2 := by
  cases o with
  | none => simp [hdO]
  | some a => exact hd_le wf a

def RunPre (cls : List Cl2) (fuel : Nat) (s : RSt) (b : Bool) (n : Nat) (out : Nat × Ms) : Prop :=
  (b = false ∧ ∃ ms, RunOK s ms ∧ mrun cls fuel n false ms = some out) ∨ (b = true ∧ ∃ K, BackOK s K ∧ mrun cls fuel n true (back K s.inf s.tried) = some out)

def RunPost (w : World) (sb : Nat) (L : HL) (pb : Nat) (V : Value × Value × Value) (s : RSt) (Fp : Nat → Prop) (out : Nat × Ms) (r : Value) (w' : World) : Prop :=
  r = i64c out.1 ∧ ∃ V' s', Inv0 w w' sb L pb V s V' s' Fp ∧ s'.inf = out.2.inf ∧ s'.tried = out.2.tried ∧ (out.1 = 0 → RunOK s' out.2 ∧ out.2.gs = [])

def J2 (w : World) (sb : Nat) (L : HL) (pb : Nat) (V0 : Value × Value × Value) (s0 : RSt) (Fp : Nat → Prop) (out : Nat × Ms) (N m : Nat) (a' : Act) (w' : World) : Prop :=
  ∃ (n : Nat) (V : Value × Value × Value) (s : RSt) (K : List Ch) (goal : Nat) (nx : Int) (next : List Gf) (bar : Nat) (id : UInt8), m = 2 * n + 1 ∧ n < N ∧ Inv0 w w' sb L pb V0 s0 V s Fp ∧ TryOK s K goal nx next bar id ∧
    tryM s0.cls s0.fuel (mrun s0.cls s0.fuel n) ⟨s.hp, [], s.proof, K, s.inf, s.tried⟩ goal next bar id = some out ∧ ∃ e, a' = Fr 278 (upds e [(0, ptr sb), (1, .bool false), (7, i64c goal), (8, .int .i64 nx), (9, i64c bar), (11, u8c id)]) []

def J0 (w : World) (sb : Nat) (L : HL) (pb : Nat) (V0 : Value × Value × Value) (s0 : RSt) (Fp : Nat → Prop) (out : Nat × Ms) (N m : Nat) (a' : Act) (w' : World) : Prop :=
  ∃ (n : Nat) (V : Value × Value × Value) (s : RSt) (K : List Ch), m = 2 * n ∧ n ≤ N ∧ Inv0 w w' sb L pb V0 s0 V s Fp ∧ BackOK s K ∧ mrun s0.cls s0.fuel n true (back K s.inf s.tried) = some out ∧ ∃ e, a' = Fr 278 (upds e [(0, ptr sb), (1, .bool false)]) []

def LI (w : World) (sb : Nat) (L : HL) (pb : Nat) (V0 : Value × Value × Value) (s0 : RSt) (Fp : Nat → Prop) (out : Nat × Ms) (m : Nat) (a' : Act) (w' : World) : Prop :=
  ∃ (V : Value × Value × Value) (s : RSt) (b : Bool), Inv0 w w' sb L pb V0 s0 V s Fp ∧ RunPre s0.cls s0.fuel s b m out ∧ ∃ e, a' = Fr 278 (upds e [(0, ptr sb), (1, .bool b)]) []

def MidI (w : World) (sb : Nat) (L : HL) (pb : Nat) (V0 : Value × Value × Value) (s0 : RSt) (Fp : Nat → Prop) (out : Nat × Ms) (n : Nat) (g : Gf) (gs : List Gf) (nx : Int) (bar : Nat) (ids : List UInt8) (a' : Act) (w' : World) : Prop :=
  ∃ (V : Value × Value × Value) (s : RSt) (K : List Ch) (id : UInt8) (ids' : List UInt8), ids = id :: ids' ∧ Inv0 w w' sb L pb V0 s0 V s Fp ∧ TryOK s K g.1 nx gs bar id ∧
    tryM s0.cls s0.fuel (mrun s0.cls s0.fuel n) ⟨s.hp, [], s.proof, K, s.inf, s.tried⟩ g.1 gs bar id = some out ∧ ∃ e, a' = Fr 278 (upds e [(0, ptr sb), (1, .bool false), (7, i64c g.1), (8, .int .i64 nx), (9, i64c bar), (10, S ids)]) []

set_option maxHeartbeats 4000000 in
theorem run41 {w : World} {sb pb : Nat} {L : HL} {V0 : Value × Value × Value} {s0 : RSt} {Fp : Nat → Prop} (M : SRm w.heap sb L pb V0.1 V0.2.1 V0.2.2 s0 Fp) (ok : POK s0.cls) (hfu : s0.fuel ≤ 24) {b : Bool} {N : Nat} {out : Nat × Ms} (pre : RunPre s0.cls s0.fuel s0 b N out) (htr : out.2.tried ≤ 1000000) :
    Ret Tryz.prog 41 [ptr sb, .bool b] w (RunPost w sb L pb V0 s0 Fp out) := by
  refine ret_of Tryz.func41 rfl Tryz.ntmps41 rfl ?_
  refine c_seq (fun K1 hK1 => ?_)
  refine c_reg ?_ -- region 0 run.go:23
  refine wl (ro_assign rfl) ?_
  refine wl_nil (x_then (hK1 _ _ ?_))
  clear hK1 K1
  -- scope@r1 label 1: live slots [0, 1]
  refine c_scope (fun _ _ _ _ => False) ?_ ?_
  · skip
    refine c_seq (fun K2 hK2 => ?_)
    refine c_reg ?_ -- region 1 run.go:25
    refine wl (ro_assign rfl) ?_
    refine wl_nil (x_then (hK2 _ _ ?_))
    clear hK2 K2
    refine forget [(0, _), (1, _)] ⟨rfl, rfl, trivial⟩ (fun e => ?_)
    refine c_seq (fun K3 hK3 => ?_)
    refine c_reg ?_ -- region 2 run.go:26
    refine wl (ro_assign rfl) ?_
    refine wl_nil (x_then (hK3 _ _ ?_))
    clear hK3 K3
    refine forget [(0, _), (1, _)] ⟨rfl, rfl, trivial⟩ (fun e => ?_)
    refine c_seq (fun K4 hK4 => ?_)
    refine c_reg ?_ -- region 3 run.go:27
    refine wl (ro_assign rfl) ?_
    refine wl_nil (x_then (hK4 _ _ ?_))
    clear hK4 K4
    refine forget [(0, _), (1, _)] ⟨rfl, rfl, trivial⟩ (fun e => ?_)
    refine c_seq (fun K5 hK5 => ?_)
    refine c_reg ?_ -- region 4 run.go:28
    refine wl (ro_assign rfl) ?_
    refine wl_nil (x_then (hK5 _ _ ?_))
    clear hK5 K5
    refine forget [(0, _), (1, _)] ⟨rfl, rfl, trivial⟩ (fun e => ?_)
    refine c_seq (fun K6 hK6 => ?_)
    refine c_reg ?_ -- region 5 run.go:29
    refine wl (ro_assign rfl) ?_
    refine wl_nil (x_then (hK6 _ _ ?_))
    clear hK6 K6
    refine forget [(0, _), (1, _)] ⟨rfl, rfl, trivial⟩ (fun e => ?_)
    refine c_seq (fun K7 hK7 => ?_)
    refine c_reg ?_ -- region 6 run.go:30
    refine wl (ro_assign rfl) ?_
    refine wl_nil (x_then (hK7 _ _ ?_))
    clear hK7 K7
    refine forget [(0, _), (1, _)] ⟨rfl, rfl, trivial⟩ (fun e => ?_)
    refine c_seq (fun K8 hK8 => ?_)
    refine c_reg ?_ -- region 7 run.go:31
    refine wl (ro_assign rfl) ?_
    refine wl_nil (x_then (hK8 _ _ ?_))
    clear hK8 K8
    refine forget [(0, _), (1, _)] ⟨rfl, rfl, trivial⟩ (fun e => ?_)
    refine c_seq (fun K9 hK9 => ?_)
    refine c_reg ?_ -- region 8 run.go:32
    refine wl (ro_assign rfl) ?_
    refine wl_nil (x_then (hK9 _ _ ?_))
    clear hK9 K9
    refine forget [(0, _), (1, _)] ⟨rfl, rfl, trivial⟩ (fun e => ?_)
    refine c_seq (fun K10 hK10 => ?_)
    refine c_reg ?_ -- region 9 run.go:33
    refine wl (ro_assign rfl) ?_
    refine wl_nil (x_then (hK10 _ _ ?_))
    clear hK10 K10
    refine forget [(0, _), (1, _)] ⟨rfl, rfl, trivial⟩ (fun e => ?_)
    refine c_seq (fun K11 hK11 => ?_)
    refine c_reg ?_ -- region 10 run.go:34
    refine wl (ro_assign rfl) ?_
    refine wl_nil (x_then (hK11 _ _ ?_))
    clear hK11 K11
    refine forget [(0, _), (1, _)] ⟨rfl, rfl, trivial⟩ (fun e => ?_)
    refine c_seq (fun K12 hK12 => ?_)
    refine c_reg ?_ -- region 11 run.go:35
    refine wl (ro_assign rfl) ?_
    refine wl_nil (x_then (hK12 _ _ ?_))
    clear hK12 K12
    refine forget [(0, _), (1, _)] ⟨rfl, rfl, trivial⟩ (fun e => ?_)
    refine c_seq (fun K13 hK13 => ?_)
    refine c_reg ?_ -- region 12 run.go:36
    refine wl (ro_assign rfl) ?_
    refine wl_nil (x_then (hK13 _ _ ?_))
    clear hK13 K13
    refine forget [(0, _), (1, _)] ⟨rfl, rfl, trivial⟩ (fun e => ?_)
    refine c_seq (fun K14 hK14 => ?_)
    refine c_reg ?_ -- region 13 run.go:37
    refine wl (ro_assign rfl) ?_
    refine wl_nil (x_then (hK14 _ _ ?_))
    clear hK14 K14
    refine forget [(0, _), (1, _)] ⟨rfl, rfl, trivial⟩ (fun e => ?_)
    refine c_seq (fun K15 hK15 => ?_)
    refine c_reg ?_ -- region 14 run.go:38
    refine wl (ro_assign rfl) ?_
    refine wl_nil (x_then (hK15 _ _ ?_))
    clear hK15 K15
    refine forget [(0, _), (1, _)] ⟨rfl, rfl, trivial⟩ (fun e => ?_)
    refine c_seq (fun K16 hK16 => ?_)
    refine c_label (x_then (hK16 _ _ ?_))
    clear hK16 K16
    refine c_block ?_
    -- loop@r15: live slots [0, 1]
    refine c_loopG (LI w sb L pb V0 s0 Fp out) N ⟨V0, s0, b, Inv0.start M, pre, kp _ ⟨rfl, rfl, trivial⟩⟩ ?_
    rintro m a' w1 ⟨V1, s1, b1, hI, hpre, e, rfl⟩
    refine c_block ?_
    -- scope@r15 label 2: live slots [0, 1, 7, 8, 9, 11]
    -- scope@r15 label 0: live slots [0, 1]
    refine c_scopeP (fun l q a' w' => (l = 2 ∧ J2 w sb L pb V0 s0 Fp out m q a' w') ∨ (l = 0 ∧ J0 w sb L pb V0 s0 Fp out m q a' w')) (by rintro l m a w (⟨rfl, _⟩ | ⟨rfl, _⟩) <;> exact ⟨_, rfl⟩) (fun HP => ?_) ?_
    · skip
      refine c_seq (fun K17 hK17 => ?_)
      refine c_seq (fun K18 hK18 => ?_)
      refine c_reg ?_ -- region 15 run.go:42
      refine wl (ro_move rfl) ?_
      refine wl_nil (x_then (hK18 _ _ ?_))
      clear hK18 K18
      refine wc_cond rfl (fun hc20 => ?_) (fun hc20 => ?_)
      · try simp only [decide_eq_true_eq, decide_eq_false_iff_not, Bool.not_eq_true', Bool.not_eq_false', Bool.not_eq_eq_eq_not, Bool.not_true, Bool.not_false, beq_iff_eq, bne_iff_ne, ne_eq, beq_eq_false_iff_ne, bne_eq_false_iff_eq, gt_iff_lt, ge_iff_le, Int.not_lt, Int.not_le] at hc20
        obtain ⟨K, hK, hm⟩ : ∃ K, BackOK s1 K ∧ mrun s0.cls s0.fuel m true (back K s1.inf s1.tried) = some out := by
          rcases hpre with ⟨h, _⟩ | ⟨_, h⟩
          · rw [hc20] at h; cases h
          · exact h
        refine c_seq (fun K19 hK19 => ?_)
        refine c_reg ?_ -- region 16 run.go:43
        refine wl (ro_assign rfl) ?_
        refine wl_nil (x_then (hK19 _ _ ?_))
        clear hK19 K19
        refine c_goto (x_thenG (x_scG rfl ?_))
        exact ⟨2 * m, .inr ⟨rfl, m, V1, s1, K, rfl, Nat.le_refl _, hI, hK, hm, kp _ ⟨rfl, rfl, trivial⟩⟩⟩
      · try simp only [decide_eq_true_eq, decide_eq_false_iff_not, Bool.not_eq_true', Bool.not_eq_false', Bool.not_eq_eq_eq_not, Bool.not_true, Bool.not_false, beq_iff_eq, bne_iff_ne, ne_eq, beq_eq_false_iff_ne, bne_eq_false_iff_eq, gt_iff_lt, ge_iff_le, Int.not_lt, Int.not_le] at hc20
        obtain ⟨ms, hR, hm⟩ : ∃ ms, RunOK s1 ms ∧ mrun s0.cls s0.fuel m false ms = some out := by
          rcases hpre with ⟨_, h⟩ | ⟨h, _⟩
          · exact h
          · rw [hc20] at h; cases h
        subst hc20
        clear hpre
        obtain ⟨n, rfl⟩ : ∃ n, m = n + 1 := by cases m with | zero => simp [mrun] at hm | succ n => exact ⟨n, rfl⟩
        have hmo := (mrun_mono _ _ _ _ hm).2
        obtain ⟨mhp, mgs, mpf, mK, minf, mtr⟩ := ms
        obtain ⟨r1, r2, r3, r4⟩ : s1.hp = mhp ∧ s1.proof = mpf ∧ s1.inf = minf ∧ s1.tried = mtr := ⟨hR.hp, hR.pf, hR.inf, hR.tr⟩
        subst r1 r2 r3 r4
        simp only at hmo
        have hcl := hI.cst.1
        have hil := hR.il
        have hpl := hR.pl
        have hkl := hR.kl
        simp only at hil hpl hkl
        refine c_skip (x_then (hK17 _ _ ?_))
        clear hK17 K17
        refine forget [(0, _), (1, _)] ⟨rfl, rfl, trivial⟩ (fun e => ?_)
        refine c_seq (fun K20 hK20 => ?_)
        have hch := hR.chain
        simp only at hch
        rcases mgs with _ | ⟨g, gs⟩
        · skip
          have hB := hI.m.blk
          rw [show s1.cont = -1 from hch] at hB
          refine c_pi [(0, false), (1, false), (2, false), (3, false), (4, false), (5, false), (6, false), (7, true), (8, false)] (SameH w1.heap) mixed (by kernel_rfl) rfl (by kernel_rfl) (po_then (po_sc (po_blk (po_then (po_blk (po_sc (po_bp))))))) (rfl) ?_ -- region 17 run.go:48
          refine pi_ro rfl (fun w hS => ro_move rfl) ?_
          refine pi_ro rfl (fun w hS => ro_nilCheck rfl) ?_
          refine pi_ro rfl (fun w hS => ro_fieldAddr (k := 9) rfl fo_82_9) ?_
          refine pi_ro rfl (fun w hS => ro_move rfl) ?_
          refine pi_ro rfl (fun w hS => ro_nilCheck rfl) ?_
          refine pi_ro rfl (fun w hS => ro_fieldAddr (k := 8) rfl fo_82_8) ?_
          refine pi_ro rfl (fun w hS => ro_loadB rfl sc_3 (Blk.of_heap hB hS) rfl) ?_
          refine pi_call rfl rfl en_70 (mAt70n (w := { w1 with drawn := w1.drawn + 1 }) hI.m) ?_
          rintro _ _ ⟨rfl, rfl⟩
          refine ⟨rfl, ?_⟩
          refine pi_ro rfl (fun w hS => ro_assign rfl) ?_
          refine gen1 (A := fun w2 => Inv0 w w2 sb L pb V0 s0 V1 s1 Fp) (C := fun w2 => WP _ _ _ _ _ _ w2) (hI.drew _) ?_
          clear hI hB
          intro w1 hI
          refine pi_nil (x_then (hK20 _ _ ?_))
          clear hK20 K20
          refine c_seq (fun K21 hK21 => ?_)
          refine c_seq (fun K22 hK22 => ?_)
          refine c_reg ?_ -- region 18 run.go:49
          refine wl (ro_move rfl) ?_
          refine wl (ro_eqPtrNil rfl pt_131 rfl) ?_
          refine wl_nil (x_then (hK22 _ _ ?_))
          clear hK22 K22
          refine wc_condT rfl ?_
          refine c_seq (fun K23 hK23 => ?_)
          refine c_reg ?_ -- region 19 run.go:50
          refine wl (ro_assign rfl) ?_
          refine wl_nil (x_then (hK23 _ _ ?_))
          clear hK23 K23
          refine c_ret (x_thenR (x_scR (x_blkR (x_thenR (x_blkR (x_scR ?_))))))
          refine bp_ret Tryz.results41 rfl ?_
          have hm' : some (0, _) = some out := hm
          obtain rfl := Option.some.inj hm'
          exact ⟨rfl, V1, s1, hI, rfl, rfl, fun _ => ⟨hR, rfl⟩⟩
        · skip
          obtain ⟨k, nx, hck, hfk, hnx, hch2⟩ := hch
          have hB := hI.m.blk
          rw [hck] at hB
          obtain ⟨g0, c0, l0, hVF, hG, h0, h1, h2⟩ := hI.m.frame hfk
          have hfl := (List.getElem?_eq_some_iff.1 hfk).1
          have hg := hR.gs g (by simp)
          simp only at hg h0 h1 h2
          refine c_pi [(0, false), (1, false), (2, false), (3, false), (4, false), (5, false), (6, false), (7, true), (8, false)] (SameH w1.heap) mixed (by kernel_rfl) rfl (by kernel_rfl) (po_then (po_sc (po_blk (po_then (po_blk (po_sc (po_bp))))))) (rfl) ?_ -- region 17 run.go:48
          refine pi_ro rfl (fun w hS => ro_move rfl) ?_
          refine pi_ro rfl (fun w hS => ro_nilCheck rfl) ?_
          refine pi_ro rfl (fun w hS => ro_fieldAddr (k := 9) rfl fo_82_9) ?_
          refine pi_ro rfl (fun w hS => ro_move rfl) ?_
          refine pi_ro rfl (fun w hS => ro_nilCheck rfl) ?_
          refine pi_ro rfl (fun w hS => ro_fieldAddr (k := 8) rfl fo_82_8) ?_
          refine pi_ro rfl (fun w hS => ro_loadB rfl sc_3 (Blk.of_heap hB hS) rfl) ?_
          refine pi_call rfl rfl en_70 (mAt70 (w := { w1 with drawn := w1.drawn + 1 }) hI.m hfl hVF) ?_
          rintro _ _ ⟨rfl, rfl⟩
          refine ⟨rfl, ?_⟩
          refine pi_ro rfl (fun w hS => ro_assign rfl) ?_
          refine gen1 (A := fun w2 => Inv0 w w2 sb L pb V0 s0 V1 s1 Fp ∧ Blk w2.heap g0 l0 117) (C := fun w2 => WP _ _ _ _ _ _ w2) ⟨hI.drew _, hG⟩ ?_
          clear hI hB hG
          rintro w1 ⟨hI, hG⟩
          refine pi_nil (x_then (hK20 _ _ ?_))
          clear hK20 K20
          refine c_seq (fun K24 hK24 => ?_)
          refine c_seq (fun K25 hK25 => ?_)
          refine c_reg ?_ -- region 18 run.go:49
          refine wl (ro_move rfl) ?_
          refine wl (ro_eqPtrNil rfl pt_131 rfl) ?_
          refine wl_nil (x_then (hK25 _ _ ?_))
          clear hK25 K25
          refine wc_condF rfl ?_
          refine c_skip (x_then (hK24 _ _ ?_))
          clear hK24 K24
          refine forget [(0, _), (1, _), (5, _)] ⟨rfl, rfl, rfl, trivial⟩ (fun e => ?_)
          refine c_seq (fun K26 hK26 => ?_)
          refine c_pi [(0, false), (1, false), (2, false), (3, false), (4, false), (5, false), (6, false), (7, false), (8, false), (9, false)] (SameH w1.heap) mixed (by kernel_rfl) rfl (by kernel_rfl) (po_then (po_sc (po_blk (po_then (po_blk (po_sc (po_bp))))))) (rfl) ?_ -- region 20 run.go:52
          refine pi_ro rfl (fun w hS => ro_move rfl) ?_
          refine pi_ro rfl (fun w hS => ro_nilCheck rfl) ?_
          refine pi_ro rfl (fun w hS => ro_fieldAddr (k := 0) rfl fo_117_0) ?_
          refine pi_ro rfl (fun w hS => ro_loadB rfl sc_3 (Blk.of_heap hG hS) (h0)) ?_
          refine pi_ro rfl (fun w hS => ro_move rfl) ?_
          refine pi_ro rfl (fun w hS => ro_nilCheck rfl) ?_
          refine pi_ro rfl (fun w hS => ro_fieldAddr (k := 1) rfl fo_117_1) ?_
          refine pi_ro rfl (fun w hS => ro_loadB rfl sc_3 (Blk.of_heap hG hS) (h1)) ?_
          refine pi_ro rfl (fun w hS => ro_assign rfl) ?_
          refine pi_ro rfl (fun w hS => ro_assign rfl) ?_
          refine gen1 (A := fun w2 => Inv0 w w2 sb L pb V0 s0 V1 s1 Fp ∧ Blk w2.heap g0 l0 117) (C := fun w2 => WP _ _ _ _ _ _ w2) ⟨hI.drew _, hG⟩ ?_
          clear hI hG
          rintro w1 ⟨hI, hG⟩
          have hB := hI.m.blk
          refine pi_nil (x_then (hK26 _ _ ?_))
          clear hK26 K26
          refine forget [(0, _), (1, _), (5, _), (7, _), (8, _)] ⟨rfl, rfl, rfl, rfl, rfl, trivial⟩ (fun e => ?_)
          refine c_seq (fun K27 hK27 => ?_)
          refine c_reg ?_ -- region 21 run.go:53
          refine wl (ro_move rfl) ?_
          refine wl (ro_nilCheck rfl) ?_
          refine wl (ro_fieldAddr (k := 0) rfl fo_82_0) ?_
          refine wl (ro_loadB rfl sc_24 (hB) rfl) ?_
          refine wl (ro_move rfl) ?_
          refine wl_call rfl en_71 (hHead hI.m.hpr hg.1) ?_
          rintro _ w1 ⟨rfl, rfl⟩
          refine wl (ro_assign rfl) ?_
          refine wl_nil (x_then (hK27 _ _ ?_))
          clear hK27 K27
          refine c_seq (fun K28 hK28 => ?_)
          refine c_seq (fun K29 hK29 => ?_)
          refine c_reg ?_ -- region 22 run.go:54
          refine wl (ro_move rfl) ?_
          refine wl (ro_eqS rfl rfl rfl) ?_
          refine wl_nil (x_then (hK29 _ _ ?_))
          clear hK29 K29
          refine wc_cond rfl (fun hc46 => ?_) (fun hc46 => ?_)
          · try simp only [decide_eq_true_eq, decide_eq_false_iff_not, Bool.not_eq_true', Bool.not_eq_false', Bool.not_eq_eq_eq_not, Bool.not_true, Bool.not_false, beq_iff_eq, bne_iff_ne, ne_eq, beq_eq_false_iff_ne, bne_eq_false_iff_eq, gt_iff_lt, ge_iff_le, Int.not_lt, Int.not_le] at hc46
            have hm : mrun s0.cls s0.fuel n false ⟨s1.hp, gs, s1.proof, cutK g.2 mK, s1.inf, s1.tried⟩ = some out := by simp only [mrun] at hm; rw [if_pos hc46] at hm; exact hm
            refine c_seq (fun K30 hK30 => ?_)
            refine c_piL 7 [(0, false), (1, false), (2, false), (3, false), (4, false), (5, false), (6, false)] (SameH w1.heap) mixed (by kernel_rfl) rfl (by kernel_rfl) (po_then (po_then (po_sc (po_blk (po_then (po_blk (po_sc (po_bp)))))))) (rfl) ?_ -- region 23 run.go:55
            refine ql_ro rfl (fun w hS => ro_move rfl) ?_
            refine ql_ro rfl (fun w hS => ro_nilCheck rfl) ?_
            refine ql_ro rfl (fun w hS => ro_fieldAddr (k := 10) rfl fo_82_10) ?_
            refine ql_ro rfl (fun w hS => ro_move rfl) ?_
            refine ql_ro rfl (fun w hS => ro_nilCheck rfl) ?_
            refine ql_ro rfl (fun w hS => ro_fieldAddr (k := 2) rfl fo_117_2) ?_
            refine ql_ro rfl (fun w hS => ro_loadB rfl sc_3 (Blk.of_heap hG hS) (h2)) ?_
            refine ql_lastC rfl rfl en_72 (mCut72 (w := { w1 with drawn := w1.drawn + 1 }) hI.m (m := g.2) (by rw [hR.rel.len]; exact hg.2)) ?_
            rintro _ w2 ⟨VG2, hst⟩
            obtain ⟨V2, hV2, hst⟩ : ∃ V2 : Value × Value × Value, V2.1 = V1.1 ∧ Stp { w1 with drawn := w1.drawn + 1 } w2 sb L pb V1 V2 { s1 with chs := s1.chs.take g.2 } Fp := ⟨(V1.1, VG2, V1.2.2), rfl, hst⟩
            have hI2 := (hI.drew _).go hst ⟨rfl, rfl, rfl, rfl, rfl⟩
            have hB2 := hI2.m.blk
            obtain ⟨g1, c1, l1, hVF1, hG1, k0, k1, k2⟩ := hI2.m.frame hfk
            rw [hV2, hVF] at hVF1
            injection hVF1 with hVF1
            injection hVF1 with hVF1
            injection hVF1 with hVF1
            subst hVF1
            simp only at k2
            clear hB hI hG hst
            refine x_then (hK30 _ _ ?_)
            clear hK30 K30
            refine forget [(0, _), (1, _), (5, _), (8, _)] ⟨rfl, rfl, rfl, rfl, trivial⟩ (fun e => ?_)
            refine c_seq (fun K31 hK31 => ?_)
            refine c_piL 8 [(0, false), (1, false), (2, false), (3, false), (4, false), (5, false), (6, false), (7, false)] (SameH w2.heap) mixed (by kernel_rfl) rfl (by kernel_rfl) (po_then (po_then (po_sc (po_blk (po_then (po_blk (po_sc (po_bp)))))))) (rfl) ?_ -- region 24 run.go:56
            refine ql_ro rfl (fun w hS => ro_move rfl) ?_
            refine ql_ro rfl (fun w hS => ro_nilCheck rfl) ?_
            refine ql_ro rfl (fun w hS => ro_fieldAddr (k := 0) rfl fo_82_0) ?_
            refine ql_ro rfl (fun w hS => ro_loadB rfl sc_24 (Blk.of_heap hB2 hS) rfl) ?_
            refine ql_ro rfl (fun w hS => ro_move rfl) ?_
            refine ql_ro rfl (fun w hS => ro_nilCheck rfl) ?_
            refine ql_ro rfl (fun w hS => ro_fieldAddr (k := 2) rfl fo_117_2) ?_
            refine ql_ro rfl (fun w hS => ro_loadB rfl sc_3 (Blk.of_heap hG1 hS) (k2)) ?_
            refine ql_lastC rfl rfl en_73 (hCut (w := { w2 with drawn := w2.drawn + 1 }) hI2.m.hpr (k := g.2) (by rw [hR.rel.sl]; exact hg.2)) ?_
            rintro _ w3 ⟨hh, FF⟩
            have hI3 := (hI2.drew (w2.drawn + 1)).go (Stp.hp (hI2.drew (w2.drawn + 1)).m FF hh) ⟨rfl, rfl, rfl, rfl, rfl⟩
            have hB3 := hI3.m.blk
            clear hB2 hI2 hG1 FF hh
            refine x_then (hK31 _ _ ?_)
            clear hK31 K31
            refine forget [(0, _), (1, _), (8, _)] ⟨rfl, rfl, rfl, trivial⟩ (fun e => ?_)
            refine c_seq (fun K32 hK32 => ?_)
            refine c_reg ?_ -- region 25 run.go:57
            refine wl (ro_move rfl) ?_
            refine wl (ro_move rfl) ?_
            refine wl (ro_nilCheck rfl) ?_
            refine wl (ro_fieldAddr (k := 8) rfl fo_82_8) ?_
            refine wls (so_storeB rfl rfl rfl sz_3 (hB3) (by simp)) ?_
            have hI4 := hI3.go (hI3.m.upS { s1 with chs := s1.chs.take g.2, sn := s1.sn.take g.2, cont := nx } rfl rfl rfl rfl rfl rfl) ⟨rfl, rfl, rfl, rfl, rfl⟩
            refine wl_nil (x_then (hK32 _ _ ?_))
            clear hK32 K32
            refine c_exit (x_thenX (x_scX (x_blkX (x_then ?_))))
            have hpw := hR.pw
            rw [List.pairwise_cons] at hpw
            refine ⟨n, by omega, V2, _, false, hI4, .inl ⟨rfl, ⟨s1.hp, gs, s1.proof, cutK g.2 mK, s1.inf, s1.tried⟩, ⟨rfl, rfl, rfl, rfl, hR.rel.cut hg.2, hR.hok, hR.a4, hR.pos, ?_, hpw.2, ?_, hR.pl, hR.fl, hR.il, hch2, fun q hq => hR.ps q (List.mem_of_mem_take hq), fun c hc => hR.kh c (List.mem_of_mem_drop hc), hR.ft, hR.iF, hR.it⟩, hm⟩, kp _ ⟨rfl, rfl, trivial⟩⟩
            · intro q hq
              simp only
              rw [cutK_len hg.2]
              exact ⟨(hR.gs q (by simp [hq])).1, hpw.1 q hq⟩
            · simp only
              rw [cutK_len hg.2]
              omega
          · try simp only [decide_eq_true_eq, decide_eq_false_iff_not, Bool.not_eq_true', Bool.not_eq_false', Bool.not_eq_eq_eq_not, Bool.not_true, Bool.not_false, beq_iff_eq, bne_iff_ne, ne_eq, beq_eq_false_iff_ne, bne_eq_false_iff_eq, gt_iff_lt, ge_iff_le, Int.not_lt, Int.not_le] at hc46
            obtain ⟨ids, hids⟩ : ∃ ids, ids = matchS s0.cls (hd s1.hp g.1) (hdO s1.hp (argOf s1.hp g.1 0)) := ⟨_, rfl⟩
            have hmA : ids = [] → mrun s0.cls s0.fuel n true ⟨s1.hp, g :: gs, s1.proof, mK, s1.inf, s1.tried⟩ = some out := by
              intro h; simp only [mrun] at hm; rw [if_neg hc46, ← hids, h] at hm; exact hm
            have hmB : ∀ id ids', ids = id :: ids' → tryM s0.cls s0.fuel (mrun s0.cls s0.fuel n) ⟨s1.hp, [], s1.proof, if ids' = [] then mK else ⟨s1.hp, g.1, gs, ids', s1.proof⟩ :: mK, s1.inf, s1.tried⟩ g.1 gs mK.length id = some out := by
              intro id ids' h; simp only [mrun] at hm; rw [if_neg hc46, ← hids, h] at hm; exact hm
            clear hm
            have hidl : ids.length ≤ 8 := by rw [hids]; have := matchS_len s0.cls (hd s1.hp g.1) (hdO s1.hp (argOf s1.hp g.1 0)); have := ok.n8; omega
            have hmem : ∀ k ∈ ids, IdOK s1.cls k := fun k hk => hcl.symm ▸ matchS_mem ok.n8 (hids ▸ hk)
            refine c_skip (x_then (hK28 _ _ ?_))
            clear hK28 K28
            refine forget [(0, _), (1, _), (7, _), (8, _), (12, _)] ⟨rfl, rfl, rfl, rfl, rfl, trivial⟩ (fun e => ?_)
            refine c_seq (fun K33 hK33 => ?_)
            refine c_reg ?_ -- region 26 run.go:62
            refine wl (ro_move rfl) ?_
            refine wl (ro_nilCheck rfl) ?_
            refine wl (ro_fieldAddr (k := 0) rfl fo_82_0) ?_
            refine wl (ro_loadB rfl sc_24 (by assumption) rfl) ?_
            refine wl (ro_move rfl) ?_
            refine wl_call rfl en_57 (hArg hI.m.hpr hg.1 0 (by omega)) ?_
            rintro _ w1 ⟨rfl, rfl⟩
            refine wl (ro_assign rfl) ?_
            refine wl_nil (x_then (hK33 _ _ ?_))
            clear hK33 K33
            refine forget [(0, _), (1, _), (7, _), (8, _), (12, _), (13, _)] ⟨rfl, rfl, rfl, rfl, rfl, rfl, trivial⟩ (fun e => ?_)
            refine c_seq (fun K34 hK34 => ?_)
            refine c_reg ?_ -- region 27 run.go:63
            refine wl (ro_move rfl) ?_
            refine wl (ro_nilCheck rfl) ?_
            refine wl (ro_fieldAddr (k := 0) rfl fo_82_0) ?_
            refine wl (ro_loadB rfl sc_24 (by assumption) rfl) ?_
            refine wl (ro_move rfl) ?_
            refine wl_call rfl en_71 (hHeadO hI.m.hpr (argOf s1.hp g.1 0) (fun k hk ↦ argOf_lt hR.hok.wf hg.1 hk)) ?_
            rintro _ w1 ⟨rfl, rfl⟩
            refine wl (ro_assign rfl) ?_
            refine wl_nil (x_then (hK34 _ _ ?_))
            clear hK34 K34
            refine forget [(0, _), (1, _), (7, _), (8, _), (12, _), (14, _)] ⟨rfl, rfl, rfl, rfl, rfl, rfl, trivial⟩ (fun e => ?_)
            refine c_seq (fun K35 hK35 => ?_)
            refine c_reg ?_ -- region 28 run.go:64
            refine wl (ro_move rfl) ?_
            refine wl (ro_nilCheck rfl) ?_
            refine wl (ro_fieldAddr (k := 1) rfl fo_82_1) ?_
            refine wl (ro_loadB rfl sc_25 (by assumption) rfl) ?_
            refine wl (ro_move rfl) ?_
            refine wl (ro_move rfl) ?_
            refine wl_call rfl en_74 (Match74 (hcl ▸ hI.m.pr) ok (hd s1.hp g.1) (hdO s1.hp (argOf s1.hp g.1 0)) (by have := hdO_le hR.hok.wf (argOf s1.hp g.1 0); simp only at this; omega) (by have := hd_le hR.hok.wf g.1; simp only at this; omega)) ?_
            rintro _ w2 ⟨rfl, F2⟩
            rw [← hids]
            have hI2 := hI.none F2
            clear hB hI hG F2
            have hB := hI2.m.blk
            refine wl (ro_assign rfl) ?_
            refine wl_nil (x_then (hK35 _ _ ?_))
            clear hK35 K35
            refine forget [(0, _), (1, _), (7, _), (8, _), (10, _)] ⟨rfl, rfl, rfl, rfl, rfl, trivial⟩ (fun e => ?_)
            refine c_seq (fun K36 hK36 => ?_)
            refine c_reg ?_ -- region 29 run.go:65
            refine wl (ro_move rfl) ?_
            refine wl (ro_nilCheck rfl) ?_
            refine wl (ro_fieldAddr (k := 10) rfl fo_82_10) ?_
            refine wl_call rfl en_44 (mLen44 hI2.m) ?_
            rintro _ w2 ⟨rfl, rfl⟩
            rw [show s1.chs.length = mK.length from hR.rel.len]
            refine wl (ro_assign rfl) ?_
            refine wl_nil (x_then (hK36 _ _ ?_))
            clear hK36 K36
            refine c_mid (MidI w sb L pb V0 s0 Fp out n g gs nx mK.length ids) ?_ ?_
            · skip
              refine c_seq (fun K37 hK37 => ?_)
              refine c_reg ?_ -- region 30 run.go:66
              refine wl (ro_move rfl) ?_
              refine wl (ro_lenS rfl st_9) ?_
              refine wl_nil (x_then (hK37 _ _ ?_))
              clear hK37 K37
              refine c_block ?_
              refine forget [(0, _), (1, _), (7, _), (8, _), (9, _), (10, _), (92, _)] ⟨rfl, rfl, rfl, rfl, rfl, rfl, rfl, trivial⟩ (fun e => ?_)
              refine c_seq (fun K38 hK38 => ?_)
              refine c_reg ?_ -- region 34 run.go:67
              refine wl (ro_cmp rfl rfl rfl) ?_
              refine wl (ro_assign rfl) ?_
              refine wl_nil (x_then (hK38 _ _ ?_))
              clear hK38 K38
              refine wc_cond rfl (fun hc117 => ?_) (fun hc117 => ?_)
              · try simp only [decide_eq_true_eq, decide_eq_false_iff_not, Bool.not_eq_true', Bool.not_eq_false', Bool.not_eq_eq_eq_not, Bool.not_true, Bool.not_false, beq_iff_eq, bne_iff_ne, ne_eq, beq_eq_false_iff_ne, bne_eq_false_iff_eq, gt_iff_lt, ge_iff_le, Int.not_lt, Int.not_le] at hc117
                obtain rfl : ids = [] := List.eq_nil_of_length_eq_zero (by omega)
                have hm := hmA rfl
                refine c_goto (x_blkG (x_thenG (x_scG rfl ?_)))
                exact ⟨2 * n, .inr ⟨rfl, n, V1, s1, mK, rfl, by omega, hI2, ⟨hR.rel, by omega, hR.pl, hR.fl, hR.il, hR.iF, hR.it⟩, (mrun_back (s := back mK s1.inf s1.tried) (s' := ⟨s1.hp, g :: gs, s1.proof, mK, s1.inf, s1.tried⟩) rfl rfl rfl).trans hm, kp _ ⟨rfl, rfl, trivial⟩⟩⟩
              · try simp only [decide_eq_true_eq, decide_eq_false_iff_not, Bool.not_eq_true', Bool.not_eq_false', Bool.not_eq_eq_eq_not, Bool.not_true, Bool.not_false, beq_iff_eq, bne_iff_ne, ne_eq, beq_eq_false_iff_ne, bne_eq_false_iff_eq, gt_iff_lt, ge_iff_le, Int.not_lt, Int.not_le] at hc117
                obtain ⟨id, ids', rfl⟩ : ∃ id ids', ids = id :: ids' := by cases ids with | nil => simp at hc117 | cons id ids' => exact ⟨id, ids', rfl⟩
                have hm := hmB _ _ rfl
                have hpw := hR.pw
                rw [List.pairwise_cons] at hpw
                refine c_seq (fun K39 hK39 => ?_)
                refine c_reg ?_ -- region 35 run.go:69
                refine wl (ro_cmp rfl rfl rfl) ?_
                refine wl (ro_assign rfl) ?_
                refine wl_nil (x_then (hK39 _ _ ?_))
                clear hK39 K39
                refine wc_cond rfl (fun hc119 => ?_) (fun hc119 => ?_)
                · try simp only [decide_eq_true_eq, decide_eq_false_iff_not, Bool.not_eq_true', Bool.not_eq_false', Bool.not_eq_eq_eq_not, Bool.not_true, Bool.not_false, beq_iff_eq, bne_iff_ne, ne_eq, beq_eq_false_iff_ne, bne_eq_false_iff_eq, gt_iff_lt, ge_iff_le, Int.not_lt, Int.not_le] at hc119
                  obtain rfl : ids' = [] := List.eq_nil_of_length_eq_zero (by simp at hc119; omega)
                  rw [if_pos rfl] at hm
                  refine c_skip (x_blk (x_then ?_))
                  exact ⟨V1, s1, mK, id, [], rfl, hI2, ⟨hR.rel, hR.hok, hR.a4, hg.1, fun q hq => ⟨(hR.gs q (by simp [hq])).1, (hR.gs q (by simp [hq])).2⟩, hpw.2, Nat.le_refl _, by omega, hkl, hpl, hR.fl, hil, hch2, hmem id (by simp), hR.kh, hR.ft, hR.iF, hR.it⟩, hm, kp _ ⟨rfl, rfl, rfl, rfl, rfl, rfl, trivial⟩⟩
                · try simp only [decide_eq_true_eq, decide_eq_false_iff_not, Bool.not_eq_true', Bool.not_eq_false', Bool.not_eq_eq_eq_not, Bool.not_true, Bool.not_false, beq_iff_eq, bne_iff_ne, ne_eq, beq_eq_false_iff_ne, bne_eq_false_iff_eq, gt_iff_lt, ge_iff_le, Int.not_lt, Int.not_le] at hc119
                  have hne : ids' ≠ [] := by rintro rfl; simp at hc119
                  rw [if_neg hne] at hm
                  refine c_seq (fun K40 hK40 => ?_)
                  refine c_reg ?_ -- region 31 run.go:72
                  refine wl (ro_move rfl) ?_
                  refine wl (ro_nilCheck rfl) ?_
                  refine wl (ro_fieldAddr (k := 9) rfl fo_82_9) ?_
                  refine wl_call rfl en_59 (mLen59 hI2.m) ?_
                  rintro _ w2 ⟨rfl, rfl⟩
                  refine wl (ro_assign rfl) ?_
                  refine wl_nil (x_then (hK40 _ _ ?_))
                  clear hK40 K40
                  refine forget [(0, _), (1, _), (7, _), (8, _), (9, _), (10, _), (19, _)] ⟨rfl, rfl, rfl, rfl, rfl, rfl, rfl, trivial⟩ (fun e => ?_)
                  refine c_seq (fun K41 hK41 => ?_)
                  refine c_reg ?_ -- region 32 run.go:73
                  refine wl (ro_move rfl) ?_
                  refine wl (ro_nilCheck rfl) ?_
                  refine wl (ro_fieldAddr (k := 0) rfl fo_82_0) ?_
                  refine wl (ro_loadB rfl sc_24 (by assumption) rfl) ?_
                  refine wl_call rfl en_75 (hPush hI2.m.hpr (by rw [hR.rel.sl]; simp only; omega)) ?_
                  rintro _ w3 ⟨hh, FF⟩
                  have hI3 := hI2.go (Stp.hp hI2.m FF hh) ⟨rfl, rfl, rfl, rfl, rfl⟩
                  clear hB hI2 FF hh
                  have hB := hI3.m.blk
                  obtain ⟨aP, cP, hVP⟩ := hI3.m.pro.form
                  simp only at hVP
                  refine wl_nil (x_then (hK41 _ _ ?_))
                  clear hK41 K41
                  refine c_pi [(0, false), (1, false), (2, false), (3, false), (4, false), (5, false), (6, false), (7, false), (8, false), (9, false), (10, false), (11, false), (12, false), (13, false), (14, true)] (fun w' => ∃ l, Blk w'.heap sb l 82 ∧ l[11]? = some (.slice aP s1.proof.length cP)) mixed (by kernel_rfl) rfl (by kernel_rfl) (po_blk (po_then (po_sc (po_blk (po_then (po_blk (po_sc (po_bp)))))))) (⟨_, hB, by rw [hVP]; rfl⟩) ?_ -- region 33 run.go:74
                  refine pi_ro rfl (fun w hS => ro_move rfl) ?_
                  refine pi_ro rfl (fun w hS => ro_nilCheck rfl) ?_
                  refine pi_ro rfl (fun w hS => ro_fieldAddr (k := 10) rfl fo_82_10) ?_
                  refine pi_ro rfl (fun w hS => ro_move rfl) ?_
                  refine pi_ro rfl (fun w hS => ro_move rfl) ?_
                  refine pi_ro rfl (fun w hS => ro_move rfl) ?_
                  refine pi_ro rfl (fun w hS => ro_sliceSL (l := 1) rfl rfl st_9 rfl (by simp)) ?_
                  refine pi_ro rfl (fun w hS => ro_move rfl) ?_
                  refine pi_ro rfl (fun w hS => ro_move rfl) ?_
                  refine pi_ro rfl (fun w hS => ro_nilCheck rfl) ?_
                  refine pi_ro rfl (fun w hS => ro_fieldAddr (k := 11) rfl fo_82_11) ?_
                  refine pi_ro rfl (fun w hS => ro_loadB rfl sc_66 (hS.choose_spec.1) (hS.choose_spec.2)) ?_
                  refine pi_ro rfl (fun w hS => ro_lenL rfl se_66) ?_
                  refine pi_ro rfl (fun w hS => ro_build rfl bld_100_0_1_2_3_4) ?_
                  refine pi_call rfl rfl en_76 (mPush76 (w := { w3 with drawn := w3.drawn + 1 }) hI3.m ⟨g.1, nx, ids', s1.frs.length, s1.proof.length⟩ (by have := hR.rel.len; simp only at this ⊢; omega)) ?_
                  rintro _ w4 ⟨VG4, hst⟩
                  obtain ⟨V4, hV4, hst⟩ : ∃ V4 : Value × Value × Value, V4.2.2 = V1.2.2 ∧ Stp { w3 with drawn := w3.drawn + 1 } w4 sb L pb V1 V4 { s1 with hp := s1.hp, sn := s1.sn ++ [s1.hp], chs := s1.chs ++ [⟨g.1, nx, ids', s1.frs.length, s1.proof.length⟩] } Fp := ⟨(V1.1, VG4, V1.2.2), rfl, hst⟩
                  have hI4 := (hI3.drew _).go hst ⟨rfl, rfl, rfl, rfl, rfl⟩
                  refine ⟨⟨_, hI4.m.blk, by rw [hV4, hVP]; rfl⟩, ?_⟩
                  refine pi_nil (x_blk (x_then ?_))
                  have hgn : ∀ q ∈ gs, q.1 < s1.hp.length ∧ q.2 ≤ mK.length := fun q hq => hR.gs q (by simp [hq])
                  have hCh : ChOK s1.cls s1.frs s1.proof mK.length ⟨s1.hp, g.1, gs, ids', s1.proof⟩ ⟨g.1, nx, ids', s1.frs.length, s1.proof.length⟩ := ⟨rfl, by simp only [List.take_length]; exact hch2, rfl, Nat.le_refl _, by simp only [List.take_length], Nat.le_refl _, hkl, hR.hok, hR.a4, hg.1, hgn, hpw.2, hne, fun q hq => hmem q (List.mem_cons_of_mem _ hq), by simp only [List.take_length]; exact hR.ft⟩
                  refine ⟨V4, _, ⟨s1.hp, g.1, gs, ids', s1.proof⟩ :: mK, id, ids', rfl, hI4, ⟨RelK.push hR.rel hCh rfl rfl hR.ps hR.kh, hR.hok, hR.a4, hg.1, hgn, hpw.2, by simp, by simp, hkl, hpl, hR.fl, hil, hch2, hmem id (by simp), (by intro c hc; rcases List.mem_cons.1 hc with rfl | hc; exact Nat.le_refl _; exact hR.kh c hc), hR.ft, hR.iF, hR.it⟩, hm, kp _ ⟨rfl, rfl, rfl, rfl, rfl, rfl, trivial⟩⟩
            rintro a' w2 ⟨V2, s2, K2, id, ids', rfl, hI2, hT, hm2, e, rfl⟩
            refine c_seq (fun K42 hK42 => ?_)
            refine c_reg ?_ -- region 36 run.go:76
            refine wl (ro_move rfl) ?_
            refine wl (ro_indexS rfl rfl st_9 (rfl) ((rfl : (id :: ids')[0]? = some id))) ?_
            refine wl (ro_assign rfl) ?_
            refine wl_nil (x_then (hK42 _ _ ?_))
            clear hK42 K42
            refine forget [(0, _), (1, _), (7, _), (8, _), (9, _), (11, _)] ⟨rfl, rfl, rfl, rfl, rfl, rfl, trivial⟩ (fun e => ?_)
            exact c_fall (HP 2 (2 * n + 1) _ _ (.inl ⟨rfl, n, V2, s2, K2, g.1, nx, gs, mK.length, id, rfl, by omega, hI2, hT, hm2, kp _ ⟨rfl, rfl, rfl, rfl, rfl, rfl, trivial⟩⟩) _ rfl)
    intro mm HQ l a' w' hJ rest hr
    rcases hJ with ⟨rfl, hJ⟩ | ⟨rfl, hJ⟩
    · skip
      injection (Option.some.inj hr) with _ hr
      subst hr
      obtain ⟨n, V2, s2, K, goal, nx, next, bar, id, rfl, hnN, hI2, hT, hm, e, rfl⟩ := hJ
      have hB2 := hI2.m.blk
      have hmo := tryM_mono hm
      simp only at hmo
      have hido := hT.ido
      rw [hI2.cst.1] at hido
      obtain ⟨j, cl, hkj, hj8, hcj, hcm, hgd⟩ := hido
      have hcs := ok.cs cl hcm
      have hctl := ok.tl cl hcm
      obtain ⟨hgood, hcl⟩ := compS_ok hcs
      have hlay := good_nsOf hgood s2.hp.length
      obtain ⟨nA, rA, hnA1, hnA2, hcode⟩ := compS_head hcs
      simp only [tryM, hgd] at hm
      obtain ⟨ns, hns⟩ : ∃ ns, ns = nsOf cl.2 s2.hp.length := ⟨_, rfl⟩
      rw [← hns] at hm hlay
      have hcv : Value.int .i64 ((id.toNat : Int) - 48) = i64c j := by rw [hkj]; show Value.int _ _ = Value.int _ _; congr 1; omega
      have hil := hT.il
      have hpl := hT.pl
      have hbp := hT.bp
      refine c_seq (fun K43 hK43 => ?_)
      refine c_reg ?_ -- region 37 run.go:80
      refine wl (ro_move rfl) ?_
      refine wl (ro_nilCheck rfl) ?_
      refine wl (ro_fieldAddr (k := 7) rfl fo_82_7) ?_
      refine wl (ro_loadB rfl sc_3 (hB2) rfl) ?_
      refine wl (ro_arith rfl rfl rfl (Go.IntWalk.i64_in _ (by omega))) ?_
      refine wl (ro_nilCheck rfl) ?_
      refine wl (ro_fieldAddr (k := 7) rfl fo_82_7) ?_
      refine wls (so_storeB rfl rfl rfl sz_3 (hB2) (by simp)) ?_
      have hI3 := hI2.go (hI2.m.upS { s2 with tried := s2.tried + 1 } rfl rfl rfl rfl rfl rfl) ⟨rfl, rfl, rfl, rfl, rfl⟩
      refine gen1 (A := fun w3 => Inv0 w w3 sb L pb V0 s0 V2 { s2 with tried := s2.tried + 1 } Fp) (C := fun w3 => WL _ _ _ _ _ w3) hI3 ?_
      clear hI3 hI2 hB2
      intro w3 hI3
      have hB3 := hI3.m.blk
      have hcl3 : s2.cls = s0.cls := hI3.cst.1
      refine wl_nil (x_then (hK43 _ _ ?_))
      clear hK43 K43
      refine forget [(0, _), (1, _), (7, _), (8, _), (9, _), (11, _)] ⟨rfl, rfl, rfl, rfl, rfl, rfl, trivial⟩ (fun e => ?_)
      refine c_seq (fun K44 hK44 => ?_)
      refine c_reg ?_ -- region 38 run.go:81
      refine wl (ro_move rfl) ?_
      refine wl (ro_nilCheck rfl) ?_
      refine wl (ro_fieldAddr (k := 1) rfl fo_82_1) ?_
      refine wl (ro_loadB rfl sc_25 (hB3) rfl) ?_
      refine wl (ro_move rfl) ?_
      refine wl (ro_arith rfl rfl rfl (Go.IntWalk.u8_in _ (by omega))) ?_
      refine wl ((show RO _ _ _ _ _ (i64c j) from hcv ▸ ro_conv rfl sc_5 in_3 (Go.IntWalk.i64_in _ (by omega)))) ?_
      refine wl_call rfl en_77 (Code77 (hcl3 ▸ hI3.m.pr) ok hcj) ?_
      rintro _ w4 ⟨rfl, F4⟩
      have hI4 := hI3.none F4
      clear hI3 hB3 F4
      have hB4 := hI4.m.blk
      refine wl (ro_move rfl) ?_
      refine wl (ro_extract rfl rfl) ?_
      refine wl (ro_extract rfl rfl) ?_
      refine wl (ro_assign rfl) ?_
      refine wl_nil (x_then (hK44 _ _ ?_))
      clear hK44 K44
      refine forget [(0, _), (1, _), (7, _), (8, _), (9, _), (11, _), (15, _)] ⟨rfl, rfl, rfl, rfl, rfl, rfl, rfl, trivial⟩ (fun e => ?_)
      refine c_seq (fun K45 hK45 => ?_)
      have hcl48 : cl.2.length ≤ 48 := by omega
      have hLd := hLoad hI4.m.hpr hlay hcl48
      simp only at hLd
      by_cases h64 : 64 < s2.hp.length + ns.length
      · skip
        have hLa : Ret Tryz.prog 31 [ptr L.h, S cl.2] w4 (fun r w' => r = .tuple #[.int .i64 (-1), i64c 6] ∧ w' = w4) := hLd.mono (by intro r w' h; rw [if_pos h64] at h; exact h)
        rw [if_pos h64] at hm
        refine c_reg ?_ -- region 39 run.go:82
        refine wl (ro_move rfl) ?_
        refine wl (ro_nilCheck rfl) ?_
        refine wl (ro_fieldAddr (k := 0) rfl fo_82_0) ?_
        refine wl (ro_loadB rfl sc_24 (by assumption) rfl) ?_
        refine wl (ro_move rfl) ?_
        refine wl_call rfl en_31 (hLa) ?_
        rintro _ w4 ⟨rfl, rfl⟩
        refine wl (ro_move rfl) ?_
        refine wl (ro_extract rfl rfl) ?_
        refine wl (ro_extract rfl rfl) ?_
        refine wl (ro_assign rfl) ?_
        refine wl (ro_assign rfl) ?_
        refine wl_nil (x_then (hK45 _ _ ?_))
        clear hK45 K45
        refine c_seq (fun K46 hK46 => ?_)
        refine c_seq (fun K47 hK47 => ?_)
        refine c_reg ?_ -- region 40 run.go:83
        refine wl (ro_move rfl) ?_
        refine wl (ro_cmp rfl rfl rfl) ?_
        refine wl_nil (x_then (hK47 _ _ ?_))
        clear hK47 K47
        refine wc_condT rfl ?_
        refine c_seq (fun K48 hK48 => ?_)
        refine c_reg ?_ -- region 41 run.go:84
        refine wl (ro_move rfl) ?_
        refine wl (ro_assign rfl) ?_
        refine wl_nil (x_then (hK48 _ _ ?_))
        clear hK48 K48
        refine c_ret (x_thenR (x_scR (x_blkR (x_thenR (x_blkR (x_scR ?_))))))
        refine bp_ret Tryz.results41 rfl ?_
        obtain rfl := Option.some.inj hm
        exact ⟨rfl, V2, _, hI4, rfl, rfl, fun h => absurd (show (6 : Nat) = 0 from h) (by decide)⟩
      · skip
        have hLb : Ret Tryz.prog 31 [ptr L.h, S cl.2] w4 (fun r w' => r = .tuple #[i64c s2.hp.length, i64c 0] ∧ HpR w'.heap L (s2.hp ++ ns) s2.sn ∧ Fram L.foot w4 w') := hLd.mono (by intro r w' h; rw [if_neg h64] at h; exact h)
        rw [if_neg h64] at hm
        refine c_reg ?_ -- region 39 run.go:82
        refine wl (ro_move rfl) ?_
        refine wl (ro_nilCheck rfl) ?_
        refine wl (ro_fieldAddr (k := 0) rfl fo_82_0) ?_
        refine wl (ro_loadB rfl sc_24 (by assumption) rfl) ?_
        refine wl (ro_move rfl) ?_
        refine wl_call rfl en_31 (hLb) ?_
        rintro _ w5 ⟨rfl, hh, FF⟩
        have hI5 : Inv0 w w5 sb L pb V0 s0 V2 { s2 with tried := s2.tried + 1, hp := s2.hp ++ ns } Fp := hI4.go (Stp.hp hI4.m FF hh) ⟨rfl, rfl, rfl, rfl, rfl⟩
        clear hI4 hB4 FF hh hLd hLb
        have hB5 := hI5.m.blk
        obtain ⟨hok5, h45⟩ := lays_hok hT.hok hlay (by omega)
        have h4 := h45 hT.a4
        obtain ⟨k0, hk0, hk0l, hrl⟩ := root_arg hok5 hnA1 hnA2 (hcode ▸ hlay)
        rw [hk0] at hm
        simp only [Option.getD_some] at hm
        have hgl : goal < (s2.hp ++ ns).length := by have := hT.gl; rw [List.length_append]; omega
        have hUn := hUnify hI5.m.hpr hgl hk0l
        obtain ⟨u, hu⟩ : ∃ u, u = uniS [(goal, k0)] (s2.hp ++ ns) 0 := ⟨_, rfl⟩
        rw [← hu] at hm
        simp only at hUn
        rw [← hu] at hUn
        refine wl (ro_move rfl) ?_
        refine wl (ro_extract rfl rfl) ?_
        refine wl (ro_extract rfl rfl) ?_
        refine wl (ro_assign rfl) ?_
        refine wl (ro_assign rfl) ?_
        refine wl_nil (x_then (hK45 _ _ ?_))
        clear hK45 K45
        refine c_seq (fun K49 hK49 => ?_)
        refine c_seq (fun K50 hK50 => ?_)
        refine c_reg ?_ -- region 40 run.go:83
        refine wl (ro_move rfl) ?_
        refine wl (ro_cmp rfl rfl rfl) ?_
        refine wl_nil (x_then (hK50 _ _ ?_))
        clear hK50 K50
        refine wc_condF rfl ?_
        refine c_skip (x_then (hK49 _ _ ?_))
        clear hK49 K49
        refine forget [(0, _), (1, _), (7, _), (8, _), (9, _), (11, _), (16, _)] ⟨rfl, rfl, rfl, rfl, rfl, rfl, rfl, trivial⟩ (fun e => ?_)
        refine c_seq (fun K51 hK51 => ?_)
        refine c_reg ?_ -- region 42 run.go:86
        refine wl (ro_move rfl) ?_
        refine wl (ro_nilCheck rfl) ?_
        refine wl (ro_fieldAddr (k := 0) rfl fo_82_0) ?_
        refine wl (ro_loadB rfl sc_24 (by assumption) rfl) ?_
        refine wl (ro_move rfl) ?_
        refine wl_call rfl en_57 (hArg hI5.m.hpr hrl 0 (by omega)) ?_
        rintro _ w5 ⟨rfl, rfl⟩
        simp only
        rw [hk0]
        refine wl (ro_assign rfl) ?_
        refine wl_nil (x_then (hK51 _ _ ?_))
        clear hK51 K51
        refine forget [(0, _), (1, _), (7, _), (8, _), (9, _), (11, _), (16, _), (17, _)] ⟨rfl, rfl, rfl, rfl, rfl, rfl, rfl, rfl, trivial⟩ (fun e => ?_)
        refine c_seq (fun K52 hK52 => ?_)
        by_cases hu0 : u.2.1 = 0
        · skip
          have hUa : Ret Tryz.prog 78 [ptr L.h, i64c goal, i64c k0] w5 (fun r w' => Fram L.foot w5 w' ∧ r = .tuple #[i64c u.1, i64c 0] ∧ HpR w'.heap L u.2.2 s2.sn) := hUn.mono (by intro r w' h; rw [if_pos hu0] at h; exact h)
          rw [if_neg (by omega), if_neg (by omega)] at hm
          refine c_reg ?_ -- region 43 run.go:87
          refine wl (ro_move rfl) ?_
          refine wl (ro_nilCheck rfl) ?_
          refine wl (ro_fieldAddr (k := 0) rfl fo_82_0) ?_
          refine wl (ro_loadB rfl sc_24 (by assumption) rfl) ?_
          refine wl (ro_move rfl) ?_
          refine wl (ro_move rfl) ?_
          refine wl_call rfl en_78 (hUa) ?_
          rintro _ w6 ⟨FF, rfl, hh⟩
          obtain ⟨hokU, h4U, hstay⟩ := uniS_okS hok5 h4 hgl hk0l (hu ▸ hu0)
          rw [← hu] at hokU h4U hstay
          have hI6 : Inv0 w w6 sb L pb V0 s0 V2 { s2 with tried := s2.tried + 1, hp := u.2.2 } Fp := hI5.go (Stp.hp hI5.m FF hh) ⟨rfl, rfl, rfl, rfl, rfl⟩
          clear hI5 hB5 FF hh hUn hUa
          have hB6 := hI6.m.blk
          simp only at hB6
          refine wl (ro_move rfl) ?_
          refine wl (ro_extract rfl rfl) ?_
          refine wl (ro_extract rfl rfl) ?_
          refine wl (ro_assign rfl) ?_
          refine wl_nil (x_then (hK52 _ _ ?_))
          clear hK52 K52
          refine c_seq (fun K53 hK53 => ?_)
          refine c_seq (fun K54 hK54 => ?_)
          refine c_reg ?_ -- region 44 run.go:88
          refine wl (ro_move rfl) ?_
          refine wl_nil (x_then (hK54 _ _ ?_))
          clear hK54 K54
          refine c_block ?_
          refine forget [(0, _), (1, _), (8, _), (9, _), (11, _), (16, _), (18, _), (169, _)] ⟨rfl, rfl, rfl, rfl, rfl, rfl, rfl, rfl, trivial⟩ (fun e => ?_)
          refine c_seq (fun K55 hK55 => ?_)
          refine c_reg ?_ -- region 45 run.go:89
          refine wl (ro_cmp rfl rfl rfl) ?_
          refine wl (ro_assign rfl) ?_
          refine wl_nil (x_then (hK55 _ _ ?_))
          clear hK55 K55
          refine wc_condT rfl ?_
          refine c_seq (fun K56 hK56 => ?_)
          refine c_reg ?_ -- region 46 run.go:90
          refine wl (ro_move rfl) ?_
          refine wl (ro_nilCheck rfl) ?_
          refine wl (ro_fieldAddr (k := 6) rfl fo_82_6) ?_
          refine wl (ro_loadB rfl sc_3 (hB6) rfl) ?_
          refine wl (ro_arith rfl rfl rfl (Go.IntWalk.i64_in _ (by omega))) ?_
          refine wl (ro_nilCheck rfl) ?_
          refine wl (ro_fieldAddr (k := 6) rfl fo_82_6) ?_
          refine wls (so_storeB rfl rfl rfl sz_3 (hB6) (by simp)) ?_
          have hI7 := hI6.go (hI6.m.upS { s2 with tried := s2.tried + 1, hp := u.2.2, inf := s2.inf + 1 } rfl rfl rfl rfl rfl rfl) ⟨rfl, rfl, rfl, rfl, rfl⟩
          refine gen1 (A := fun w7 => Inv0 w w7 sb L pb V0 s0 V2 { s2 with tried := s2.tried + 1, hp := u.2.2, inf := s2.inf + 1 } Fp) (C := fun w7 => WL _ _ _ _ _ w7) hI7 ?_
          clear hI7 hI6 hB6
          intro w7 hI7
          have hB7 := hI7.m.blk
          have hfue : s2.fuel = s0.fuel := hI7.cst.2.2.2.1
          refine wl_nil (x_then (hK56 _ _ ?_))
          clear hK56 K56
          refine c_seq (fun K57 hK57 => ?_)
          refine c_seq (fun K58 hK58 => ?_)
          refine c_pi [(0, false), (1, false), (2, false), (3, false), (4, false), (5, false), (6, false), (7, false), (8, false)] (SameH w7.heap) mixed (by kernel_rfl) rfl (by kernel_rfl) (po_then (po_then (po_blk (po_then (po_sc (po_blk (po_then (po_blk (po_sc (po_bp)))))))))) (rfl) ?_ -- region 47 run.go:91
          refine pi_ro rfl (fun w hS => ro_move rfl) ?_
          refine pi_ro rfl (fun w hS => ro_nilCheck rfl) ?_
          refine pi_ro rfl (fun w hS => ro_fieldAddr (k := 6) rfl fo_82_6) ?_
          refine pi_ro rfl (fun w hS => ro_loadB rfl sc_3 (Blk.of_heap (by assumption) hS) rfl) ?_
          refine pi_ro rfl (fun w hS => ro_move rfl) ?_
          refine pi_ro rfl (fun w hS => ro_nilCheck rfl) ?_
          refine pi_ro rfl (fun w hS => ro_fieldAddr (k := 4) rfl fo_82_4) ?_
          refine pi_ro rfl (fun w hS => ro_loadB rfl sc_3 (Blk.of_heap (by assumption) hS) rfl) ?_
          refine pi_ro rfl (fun w hS => ro_cmp rfl rfl rfl) ?_
          refine gen1 (A := fun w2 => Inv0 w w2 sb L pb V0 s0 V2 { s2 with tried := s2.tried + 1, hp := u.2.2, inf := s2.inf + 1 } Fp) (C := fun w2 => WP _ _ _ _ _ _ w2) (hI7.drew _) ?_
          clear hI7 hB7
          intro w7 hI7
          have hB7 := hI7.m.blk
          refine pi_nil (x_then (hK58 _ _ ?_))
          clear hK58 K58
          refine wc_cond rfl (fun hc187 => ?_) (fun hc187 => ?_)
          · try simp only [decide_eq_true_eq, decide_eq_false_iff_not, Bool.not_eq_true', Bool.not_eq_false', Bool.not_eq_eq_eq_not, Bool.not_true, Bool.not_false, beq_iff_eq, bne_iff_ne, ne_eq, beq_eq_false_iff_ne, bne_eq_false_iff_eq, gt_iff_lt, ge_iff_le, Int.not_lt, Int.not_le] at hc187
            rw [if_pos (by omega)] at hm
            refine c_seq (fun K59 hK59 => ?_)
            refine c_reg ?_ -- region 48 run.go:92
            refine wl (ro_assign rfl) ?_
            refine wl_nil (x_then (hK59 _ _ ?_))
            clear hK59 K59
            refine c_ret (x_thenR (x_blkR (x_thenR (x_scR (x_blkR (x_thenR (x_blkR (x_scR ?_))))))))
            refine bp_ret Tryz.results41 rfl ?_
            obtain rfl := Option.some.inj hm
            exact ⟨rfl, V2, _, hI7, rfl, rfl, fun h => absurd (show (10 : Nat) = 0 from h) (by decide)⟩
          · try simp only [decide_eq_true_eq, decide_eq_false_iff_not, Bool.not_eq_true', Bool.not_eq_false', Bool.not_eq_eq_eq_not, Bool.not_true, Bool.not_false, beq_iff_eq, bne_iff_ne, ne_eq, beq_eq_false_iff_ne, bne_eq_false_iff_eq, gt_iff_lt, ge_iff_le, Int.not_lt, Int.not_le] at hc187
            rw [if_neg (by omega)] at hm
            have hO7 := hI7.m.pro
            obtain ⟨aP, cP, hVP⟩ := hO7.form
            simp only at hVP hO7
            have hB7' := hB7
            rw [hVP] at hB7' hO7
            refine c_skip (x_then (hK57 _ _ ?_))
            clear hK57 K57
            refine forget [(0, _), (1, _), (8, _), (9, _), (11, _), (16, _)] ⟨rfl, rfl, rfl, rfl, rfl, rfl, trivial⟩ (fun e => ?_)
            refine c_seq (fun K60 hK60 => ?_)
            refine c_reg ?_ -- region 49 run.go:94
            refine wl (ro_move rfl) ?_
            refine wl (ro_move rfl) ?_
            refine wl (ro_nilCheck rfl) ?_
            refine wl (ro_fieldAddr (k := 11) rfl fo_82_11) ?_
            refine wl (ro_loadB rfl sc_66 (hB7') rfl) ?_
            refine wl (ro_move rfl) ?_
            refine wle (eo_bs1 rfl rfl se_66 zx_5 rfl rfl rfl) ?_
            have hN := Blk.new w7 [u8c id] 5
            have hB8 := hB7'.alloc (.cells [u8c id].toArray 5)
            have hO8 := hO7.alloc (.cells [u8c id].toArray 5)
            refine wl_app (news := [u8c id]) rfl rfl se_66 zx_5 by_5 rfl hO8 hN rfl rfl (by simp [u8c, Value.oneCell']) (by omega) (by omega) ?_
            intro VP9 w9 hO9 hgr hloc
            have FA : Fram (fun b => (Value.slice aP s2.proof.length cP).ownBlock = some b) _ w9 := Fram.grown hgr (fun k hk => .inl hk)
            have hB9 := hB8.fram FA (fun hk => hO8.neblk hB8 (by decide) _ hk rfl)
            obtain ⟨a9, c9, rfl⟩ := hO9.form
            have F79 : Fram (fun b => V2.2.2.ownBlock = some b) w7 w9 := by
              rw [hVP]; exact (Fram.alloc _ w7 _).trans FA
            have hT5 : TypF [5] (fun b => V2.2.2.ownBlock = some b) w7.heap := by
              intro b hb l t hBl
              have := hI7.m.pro.typ b hb _ _ hBl; simp at this; subst this; rfl
            have hFO9 := hI7.m.fro.framT F79 hT5 rfl
            have hCO9 := hI7.m.cho.framT F79 hT5 rfl
            refine wl (ro_nilCheck rfl) ?_
            refine wl (ro_fieldAddr (k := 11) rfl fo_82_11) ?_
            refine wls (so_storeB rfl rfl rfl sz_66 (hB9) (by simp)) ?_
            have FS : Fram (fun b => b = sb) w9 _ := Fram.set w9 sb [ptr L.h, ptr pb, .bool s2.opn, S s2.q, i64c s2.fuel, i64c s2.given, i64c (s2.inf + 1), i64c (s2.tried + 1), .int .i64 s2.cont, V2.1, V2.2.1, .slice a9 (s2.proof.length + 1) c9].toArray (.inl rfl)
            have hB10 : Blk _ sb [ptr L.h, ptr pb, .bool s2.opn, S s2.q, i64c s2.fuel, i64c s2.given, i64c (s2.inf + 1), i64c (s2.tried + 1), .int .i64 s2.cont, V2.1, V2.2.1, .slice a9 (s2.proof.length + 1) c9] 82 := hB9.set [ptr L.h, ptr pb, .bool s2.opn, S s2.q, i64c s2.fuel, i64c s2.given, i64c (s2.inf + 1), i64c (s2.tried + 1), .int .i64 s2.cont, V2.1, V2.2.1, .slice a9 (s2.proof.length + 1) c9]
            have hst : Stp w7 _ sb L pb V2 (V2.1, V2.2.1, .slice a9 (s2.proof.length + 1) c9) { s2 with tried := s2.tried + 1, hp := u.2.2, inf := s2.inf + 1, proof := s2.proof ++ [id] } Fp := hI7.m.turn (G := fun b => b = sb ∨ V2.2.2.ownBlock = some b) ((F79.mono (fun b _ h => .inr h)).trans (FS.mono (fun b _ h => .inl h))) (fun b hb h => by rcases h with h | h; exact .inl h; exact .inr (.inr (.inr h))) hB10
              (hFO9.fram FS (fun b hb he => hFO9.neblk hB9 (by decide) b hb he)) (hCO9.fram FS (fun b hb he => hCO9.neblk hB9 (by decide) b hb he)) (by
                have := hO9.fram FS (fun b hb he => hO9.neblk hB9 (by decide) b hb he)
                simpa using this) (fun b h => .inl h) (fun b h => .inl h) (fun b h => by
                rcases hloc with h' | h'
                · rw [h'] at h; rw [hVP]; exact .inl h
                · rw [h'] at h; cases h; exact .inr (by simp)) rfl rfl rfl
            have hI8 := hI7.go hst ⟨rfl, rfl, rfl, rfl, rfl⟩
            refine gen1 (A := fun w8 => ∃ V8, Inv0 w w8 sb L pb V0 s0 V8 { s2 with tried := s2.tried + 1, hp := u.2.2, inf := s2.inf + 1, proof := s2.proof ++ [id] } Fp) (C := fun w8 => WL _ _ _ _ _ w8) ⟨_, hI8⟩ ?_
            clear hI8 hst hB10 FS hI7 hB7 hB7' hO7 hO8 hB8 hN hFO9 hCO9 F79 FA hgr hB9 hO9
            rintro w8 ⟨V8, hI8⟩
            have hlen : s2.hp.length < u.2.2.length := by rw [hstay.1]; exact hrl
            have hfl := hT.fl
            refine wl_nil (x_then (hK60 _ _ ?_))
            clear hK60 K60
            refine forget [(0, _), (1, _), (8, _), (9, _), (16, _)] ⟨rfl, rfl, rfl, rfl, rfl, trivial⟩ (fun e => ?_)
            refine c_seq (fun K61 hK61 => ?_)
            refine c_reg ?_ -- region 50 run.go:95
            refine wl (ro_move rfl) ?_
            refine wl (ro_move rfl) ?_
            refine wl (ro_move rfl) ?_
            refine wl (ro_move rfl) ?_
            refine wl_call rfl en_32 (enter32 hI8.m hokU.wf (root := s2.hp.length) (frm := 1) (cut := bar) (next := nx) hlen (by omega) hT.chain (by simp only; omega)) ?_
            rintro _ w9 ⟨VF9, x, c', M9, hch9, hx9, hn9, F9, hft9⟩
            have hI9 := hI8.go (V' := (VF9, V8.2.1, V8.2.2)) ⟨M9, F9.mono (fun b _ h => by rcases h with h | h; exact .inl h; exact .inr (.inr (.inl h))), hn9, fun b h => .inl h, fun b h => .inl h⟩ ⟨rfl, rfl, rfl, rfl, rfl⟩
            refine wl_nil (x_then (hK61 _ _ ?_))
            clear hK61 K61
            refine c_exit (x_blkY rfl (x_thenX (x_scX (x_blkX (x_then ?_)))))
            rw [kidsK_eq] at hm
            have hmm := (mrun_mono _ _ _ _ hm).1
            simp only at hmm hx9
            refine ⟨n, by omega, _, _, false, hI9, .inl ⟨rfl, _, ⟨rfl, rfl, rfl, rfl, RelK.grow hT.rel, hokU, h4U, by simp only; omega, ?_, ?_, ?_, ?_, ?_, ?_, hch9, ?_, ?_, ?_, ?_, ?_⟩, hm⟩, kp _ ⟨rfl, rfl, trivial⟩⟩
            · intro q hq
              simp only at hq ⊢
              rcases List.mem_append.1 hq with hq | hq
              · obtain ⟨e1, j, hj⟩ := kidsK_mem hq
                rw [e1]
                exact ⟨argOf_lt hokU.wf hlen hj, hT.bk⟩
              · have := hT.gn q hq
                have := hT.bk
                exact ⟨by omega, by omega⟩
            · exact kids_pw (fun q hq => (hT.gn q hq).2) hT.pw
            · have := hT.kb
              simp only [List.length_append, List.length_singleton]
              omega
            · simp only [List.length_append, List.length_singleton]
              omega
            · simp only [List.length_append]
              omega
            · simp only
              omega
            · intro q hq
              have := hT.rel.prle q hq
              simp only [List.length_append, List.length_singleton]
              omega
            · intro c hc
              have h1 := hT.kh c hc
              simp only
              omega
            · exact hft9 (hT.ft.mono (by simp only; omega))
            · simp only
              omega
            · have := hT.it
              simp only
              omega
        · skip
          have hUb : Ret Tryz.prog 78 [ptr L.h, i64c goal, i64c k0] w5 (fun r w' => Fram L.foot w5 w' ∧ r = .tuple #[i64c 0, i64c u.2.1] ∧ HpR w'.heap L (s2.hp ++ ns) s2.sn) := hUn.mono (by intro r w' h; rw [if_neg hu0] at h; exact h)
          refine c_reg ?_ -- region 43 run.go:87
          refine wl (ro_move rfl) ?_
          refine wl (ro_nilCheck rfl) ?_
          refine wl (ro_fieldAddr (k := 0) rfl fo_82_0) ?_
          refine wl (ro_loadB rfl sc_24 (by assumption) rfl) ?_
          refine wl (ro_move rfl) ?_
          refine wl (ro_move rfl) ?_
          refine wl_call rfl en_78 (hUb) ?_
          rintro _ w6 ⟨FF, rfl, hh⟩
          have hI6 : Inv0 w w6 sb L pb V0 s0 V2 { s2 with tried := s2.tried + 1, hp := s2.hp ++ ns } Fp := hI5.go (Stp.hp hI5.m FF hh) ⟨rfl, rfl, rfl, rfl, rfl⟩
          clear hI5 hB5 FF hh hUn hUb
          refine wl (ro_move rfl) ?_
          refine wl (ro_extract rfl rfl) ?_
          refine wl (ro_extract rfl rfl) ?_
          refine wl (ro_assign rfl) ?_
          refine wl_nil (x_then (hK52 _ _ ?_))
          clear hK52 K52
          refine c_seq (fun K62 hK62 => ?_)
          refine c_seq (fun K63 hK63 => ?_)
          refine c_reg ?_ -- region 44 run.go:88
          refine wl (ro_move rfl) ?_
          refine wl_nil (x_then (hK63 _ _ ?_))
          clear hK63 K63
          refine c_block ?_
          refine forget [(0, _), (1, _), (8, _), (9, _), (11, _), (16, _), (18, _), (169, _)] ⟨rfl, rfl, rfl, rfl, rfl, rfl, rfl, rfl, trivial⟩ (fun e => ?_)
          refine c_seq (fun K64 hK64 => ?_)
          refine c_reg ?_ -- region 45 run.go:89
          refine wl (ro_cmp (r := false) rfl rfl (by simp; omega)) ?_
          refine wl (ro_assign rfl) ?_
          refine wl_nil (x_then (hK64 _ _ ?_))
          clear hK64 K64
          refine wc_condF rfl ?_
          refine c_seq (fun K65 hK65 => ?_)
          refine c_reg ?_ -- region 51 run.go:97
          refine wl (ro_cmp rfl rfl rfl) ?_
          refine wl (ro_assign rfl) ?_
          refine wl_nil (x_then (hK65 _ _ ?_))
          clear hK65 K65
          refine wc_cond rfl (fun hc203 => ?_) (fun hc203 => ?_)
          · try simp only [decide_eq_true_eq, decide_eq_false_iff_not, Bool.not_eq_true', Bool.not_eq_false', Bool.not_eq_eq_eq_not, Bool.not_true, Bool.not_false, beq_iff_eq, bne_iff_ne, ne_eq, beq_eq_false_iff_ne, bne_eq_false_iff_eq, gt_iff_lt, ge_iff_le, Int.not_lt, Int.not_le] at hc203
            rw [if_pos (by omega)] at hm
            refine c_seq (fun K66 hK66 => ?_)
            refine c_reg ?_ -- region 52 run.go:98
            refine wl (ro_move rfl) ?_
            refine wl (ro_assign rfl) ?_
            refine wl_nil (x_then (hK66 _ _ ?_))
            clear hK66 K66
            refine c_ret (x_blkR (x_thenR (x_scR (x_blkR (x_thenR (x_blkR (x_scR ?_)))))))
            refine bp_ret Tryz.results41 rfl ?_
            obtain rfl := Option.some.inj hm
            refine ⟨by rw [show u.2.1 = 8 by omega]; rfl, V2, _, hI6, rfl, rfl, fun h => absurd (show (8 : Nat) = 0 from h) (by decide)⟩
          · try simp only [decide_eq_true_eq, decide_eq_false_iff_not, Bool.not_eq_true', Bool.not_eq_false', Bool.not_eq_eq_eq_not, Bool.not_true, Bool.not_false, beq_iff_eq, bne_iff_ne, ne_eq, beq_eq_false_iff_ne, bne_eq_false_iff_eq, gt_iff_lt, ge_iff_le, Int.not_lt, Int.not_le] at hc203
            rw [if_neg (by omega), if_pos hu0] at hm
            refine c_skip (x_blk (x_then (hK62 _ _ ?_)))
            clear hK62 K62
            refine forget [(0, _), (1, _)] ⟨rfl, rfl, trivial⟩ (fun e => ?_)
            refine c_fall (HQ (2 * n) (by omega) 0 _ _ (.inr ⟨rfl, n, V2, _, K, rfl, by omega, hI6, ⟨hT.rel, ?_, hpl, hT.fl, hil, hT.iF, Nat.le_succ_of_le hT.it⟩, (mrun_back (s := back K s2.inf (s2.tried + 1)) (s' := ⟨s2.hp, [], s2.proof, K, s2.inf, s2.tried + 1⟩) rfl rfl rfl).trans hm, kp _ ⟨rfl, rfl, trivial⟩⟩) _ rfl)
            have := hT.kb
            omega
    · skip
      injection (Option.some.inj hr) with _ hr
      subst hr
      obtain ⟨n, V2, s2, K, rfl, hnN, hI2, hT, hm, e, rfl⟩ := hJ
      have hB2 := hI2.m.blk
      obtain ⟨n, rfl⟩ : ∃ k, n = k + 1 := by cases n with | zero => simp [mrun] at hm | succ n => exact ⟨n, rfl⟩
      have hkl := hT.kl
      have hil := hT.il
      have hpl := hT.pl
      have hfl := hT.fl
      refine c_seq (fun K67 hK67 => ?_)
      rcases K with _ | ⟨c, K⟩
      · skip
        have hnil : s2.chs = [] := List.eq_nil_of_length_eq_zero hT.rel.len
        refine c_reg ?_ -- region 53 run.go:103
        refine wl (ro_move rfl) ?_
        refine wl (ro_nilCheck rfl) ?_
        refine wl (ro_fieldAddr (k := 10) rfl fo_82_10) ?_
        refine wl_call rfl en_79 (mTop79n hI2.m hnil) ?_
        rintro _ w2 ⟨rfl, rfl⟩
        refine wl (ro_assign rfl) ?_
        refine wl_nil (x_then (hK67 _ _ ?_))
        clear hK67 K67
        refine c_seq (fun K68 hK68 => ?_)
        refine c_seq (fun K69 hK69 => ?_)
        refine c_reg ?_ -- region 54 run.go:104
        refine wl (ro_move rfl) ?_
        refine wl (ro_eqPtrNil rfl pt_132 rfl) ?_
        refine wl_nil (x_then (hK69 _ _ ?_))
        clear hK69 K69
        refine wc_condT rfl ?_
        refine c_seq (fun K70 hK70 => ?_)
        refine c_reg ?_ -- region 55 run.go:105
        refine wl (ro_assign rfl) ?_
        refine wl_nil (x_then (hK70 _ _ ?_))
        clear hK70 K70
        refine c_ret (x_thenR (x_scR (x_blkR (x_thenR (x_blkR (x_scR ?_))))))
        refine bp_ret Tryz.results41 rfl ?_
        have hm' : some (9, (⟨[], [], [], [], s2.inf, s2.tried⟩ : Ms)) = some out := hm
        obtain rfl := Option.some.inj hm'
        exact ⟨rfl, V2, _, hI2, rfl, rfl, fun h => absurd (show (9 : Nat) = 0 from h) (by decide)⟩
      · skip
        obtain ⟨chs, q, hq⟩ : ∃ chs q, s2.chs = chs ++ [q] := by
          rcases List.eq_nil_or_concat s2.chs with h | ⟨l, x, h⟩
          · have := hT.rel.len; rw [h] at this; simp at this
          · exact ⟨l, x, by rw [h, List.concat_eq_append]⟩
        obtain ⟨hCh, hRel, hCh', hlp, hlh⟩ := RelK.back (hq ▸ hT.rel)
        have hlc : chs.length = K.length := hRel.len
        simp only [List.length_cons] at hkl
        have hsn : s2.sn = K.reverse.map (·.hp) ++ [c.hp] := by rw [hT.rel.sn]; simp
        obtain ⟨g0, c0, l0, hVG, hc0, -⟩ := hI2.m.top hq
        obtain ⟨id, ids', hal⟩ : ∃ id ids', c.alts = id :: ids' := by
          cases h : c.alts with
          | nil => exact absurd h hCh.an
          | cons id ids' => exact ⟨id, ids', rfl⟩
        have hqa : q.alts = id :: ids' := hCh.alts.trans hal
        have hm : tryM s0.cls s0.fuel (mrun s0.cls s0.fuel n) ⟨c.hp, [], c.proof, if ids' = [] then K else { c with alts := ids' } :: K, s2.inf, s2.tried⟩ c.goal c.next K.length id = some out := by
          have h : tryM s0.cls s0.fuel (mrun s0.cls s0.fuel n) ⟨c.hp, [], c.proof, if c.alts.tail = [] then K else { c with alts := c.alts.tail } :: K, s2.inf, s2.tried⟩ c.goal c.next K.length (c.alts.headD 0) = some out := hm
          rw [hal] at h
          exact h
        rw [← hCh.goal] at hm
        refine c_reg ?_ -- region 53 run.go:103
        refine wl (ro_move rfl) ?_
        refine wl (ro_nilCheck rfl) ?_
        refine wl (ro_fieldAddr (k := 10) rfl fo_82_10) ?_
        refine wl_call rfl en_79 (mTop79 hI2.m hq (by omega) hVG) ?_
        rintro _ w2 ⟨rfl, rfl⟩
        refine wl (ro_assign rfl) ?_
        refine wl_nil (x_then (hK67 _ _ ?_))
        clear hK67 K67
        refine c_seq (fun K71 hK71 => ?_)
        refine c_seq (fun K72 hK72 => ?_)
        refine c_reg ?_ -- region 54 run.go:104
        refine wl (ro_move rfl) ?_
        refine wl (ro_eqPtrNil rfl pt_132 rfl) ?_
        refine wl_nil (x_then (hK72 _ _ ?_))
        clear hK72 K72
        refine wc_condF rfl ?_
        refine c_skip (x_then (hK71 _ _ ?_))
        clear hK71 K71
        refine forget [(0, _), (1, _), (6, _)] ⟨rfl, rfl, rfl, trivial⟩ (fun e => ?_)
        refine c_seq (fun K73 hK73 => ?_)
        refine c_reg ?_ -- region 56 run.go:107
        refine wl (ro_move rfl) ?_
        refine wl (ro_nilCheck rfl) ?_
        refine wl (ro_fieldAddr (k := 0) rfl fo_82_0) ?_
        refine wl (ro_loadB rfl sc_24 (hB2) rfl) ?_
        refine wl_call rfl en_80 (hUndo (hsn ▸ hI2.m.hpr)) ?_
        rintro _ w3 ⟨hh, FF⟩
        have hI3 : Inv0 w w3 sb L pb V0 s0 V2 { s2 with hp := c.hp, sn := K.reverse.map (·.hp) ++ [c.hp] } Fp := hI2.go (Stp.hp hI2.m FF hh) ⟨rfl, rfl, rfl, rfl, rfl⟩
        clear hI2 hB2 FF hh
        have hB3 := hI3.m.blk
        obtain ⟨g1, c1, l1, hVG1, hc1, hG1, hll1, htk1, k0, k1, k2, k3, k4⟩ := hI3.m.top hq
        rw [hVG] at hVG1
        injection hVG1 with x1 x2 x3
        injection x1 with x1
        injection x1 with x1
        subst x1 x3
        refine wl_nil (x_then (hK73 _ _ ?_))
        clear hK73 K73
        refine forget [(0, _), (1, _), (6, _)] ⟨rfl, rfl, rfl, trivial⟩ (fun e => ?_)
        refine c_seq (fun K74 hK74 => ?_)
        refine c_piL 7 [(0, false), (1, false), (2, false), (3, false), (4, false), (5, false), (6, false)] (SameH w3.heap) mixed (by kernel_rfl) rfl (by kernel_rfl) (po_then (po_sc (po_blk (po_then (po_blk (po_sc (po_bp))))))) (rfl) ?_ -- region 57 run.go:108
        refine ql_ro rfl (fun w hS => ro_move rfl) ?_
        refine ql_ro rfl (fun w hS => ro_nilCheck rfl) ?_
        refine ql_ro rfl (fun w hS => ro_fieldAddr (k := 9) rfl fo_82_9) ?_
        refine ql_ro rfl (fun w hS => ro_move rfl) ?_
        refine ql_ro rfl (fun w hS => ro_nilCheck rfl) ?_
        refine ql_ro rfl (fun w hS => ro_fieldAddr (k := 3) rfl fo_100_3) ?_
        refine ql_ro rfl (fun w hS => ro_loadB rfl sc_3 (Blk.of_heap hG1 hS) (k3)) ?_
        refine ql_lastC rfl rfl en_81 (mCut81 (w := { w3 with drawn := w3.drawn + 1 }) hI3.m (m := q.fr) hCh.fr) ?_
        rintro _ w4 ⟨VF4, hst⟩
        obtain ⟨V4, hV4, hst⟩ : ∃ V4 : Value × Value × Value, V4.2.1 = V2.2.1 ∧ Stp { w3 with drawn := w3.drawn + 1 } w4 sb L pb V2 V4 { s2 with hp := c.hp, sn := K.reverse.map (·.hp) ++ [c.hp], frs := s2.frs.take q.fr } Fp := ⟨(VF4, V2.2.1, V2.2.2), rfl, hst⟩
        have hI4 := (hI3.drew _).go hst ⟨rfl, rfl, rfl, rfl, rfl⟩
        clear hI3 hB3 hst hG1 htk1 k0 k1 k2 k3 k4 hll1
        rw [← hV4] at hVG
        have hB4 := hI4.m.blk
        simp only at hB4
        obtain ⟨g1, c1, l4, hVG1, hc4, hG4, hll4, htk4, k0, k1, k2, k3, k4⟩ := hI4.m.top hq
        rw [hVG] at hVG1
        injection hVG1 with x1 x2 x3
        injection x1 with x1
        injection x1 with x1
        subst x1 x3
        obtain ⟨aP, cP, hVP⟩ := hI4.m.pro.form
        simp only at hVP
        have hO4 := hI4.m.pro
        simp only at hO4
        rw [hVP] at hB4 hO4
        have hcP := capOf hO4
        have hprl := hCh.pr
        refine x_then (hK74 _ _ ?_)
        clear hK74 K74
        refine forget [(0, _), (1, _), (6, _)] ⟨rfl, rfl, rfl, trivial⟩ (fun e => ?_)
        refine c_seq (fun K75 hK75 => ?_)
        refine c_piL 12 [(0, false), (1, false), (2, false), (3, false), (4, false), (5, false), (6, false), (7, false), (8, false), (9, false), (10, false), (11, false)] (SameH w4.heap) mixed (by kernel_rfl) rfl (by kernel_rfl) (po_then (po_sc (po_blk (po_then (po_blk (po_sc (po_bp))))))) (rfl) ?_ -- region 58 run.go:109
        refine ql_ro rfl (fun w hS => ro_move rfl) ?_
        refine ql_ro rfl (fun w hS => ro_move rfl) ?_
        refine ql_ro rfl (fun w hS => ro_nilCheck rfl) ?_
        refine ql_ro rfl (fun w hS => ro_fieldAddr (k := 11) rfl fo_82_11) ?_
        refine ql_ro rfl (fun w hS => ro_loadB rfl sc_66 (Blk.of_heap hB4 hS) rfl) ?_
        refine ql_ro rfl (fun w hS => ro_move rfl) ?_
        refine ql_ro rfl (fun w hS => ro_nilCheck rfl) ?_
        refine ql_ro rfl (fun w hS => ro_fieldAddr (k := 4) rfl fo_100_4) ?_
        refine ql_ro rfl (fun w hS => ro_loadB rfl sc_3 (Blk.of_heap hG4 hS) (k4)) ?_
        refine ql_ro rfl (fun w hS => ro_sliceH (h := q.pr) rfl rfl se_66 rfl (by omega)) ?_
        refine ql_ro rfl (fun w hS => ro_nilCheck rfl) ?_
        refine ql_ro rfl (fun w hS => ro_fieldAddr (k := 11) rfl fo_82_11) ?_
        refine ql_last rfl (so_storeB rfl rfl rfl sz_66 (hB4) (by simp)) ?_
        have FS : Fram (fun b => b = sb) { w4 with drawn := w4.drawn + 1 } _ := Fram.set { w4 with drawn := w4.drawn + 1 } sb [ptr L.h, ptr pb, .bool s2.opn, S s2.q, i64c s2.fuel, i64c s2.given, i64c s2.inf, i64c s2.tried, .int .i64 s2.cont, V4.1, V4.2.1, .slice aP q.pr cP].toArray (.inl rfl)
        have hB5 := Blk.set (w := { w4 with drawn := w4.drawn + 1 }) hB4 [ptr L.h, ptr pb, .bool s2.opn, S s2.q, i64c s2.fuel, i64c s2.given, i64c s2.inf, i64c s2.tried, .int .i64 s2.cont, V4.1, V4.2.1, .slice aP q.pr cP]
        have hst : Stp { w4 with drawn := w4.drawn + 1 } _ sb L pb V4 (V4.1, V4.2.1, .slice aP q.pr cP) { s2 with hp := c.hp, sn := K.reverse.map (·.hp) ++ [c.hp], frs := s2.frs.take q.fr, proof := s2.proof.take q.pr } Fp := SRm.turn (w := { w4 with drawn := w4.drawn + 1 }) hI4.m FS (fun b hb h => .inl h) hB5
          (Own.fram (w := { w4 with drawn := w4.drawn + 1 }) hI4.m.fro FS (fun b hb he => hI4.m.fro.neblk hB4 (by decide) b hb he)) (Own.fram (w := { w4 with drawn := w4.drawn + 1 }) hI4.m.cho FS (fun b hb he => hI4.m.cho.neblk hB4 (by decide) b hb he)) (by
            have := (Own.fram (w := { w4 with drawn := w4.drawn + 1 }) hO4 FS (fun b hb he => hO4.neblk hB4 (by decide) b hb he)).cut (m := q.pr) hprl
            simp only [List.length_take, Nat.min_eq_left hprl, List.map_take]
            simpa using this) (fun b h => .inl h) (fun b h => .inl h) (fun b h => .inl (by rw [hVP, own_same (m := q.pr)]; exact h)) rfl rfl rfl
        have hI5 := (hI4.drew (w4.drawn + 1)).go hst ⟨rfl, rfl, rfl, rfl, rfl⟩
        refine gen1 (A := fun w5 => ∃ V5 : Value × Value × Value, V5.2.1 = V4.2.1 ∧ Inv0 w w5 sb L pb V0 s0 V5 { s2 with hp := c.hp, sn := K.reverse.map (·.hp) ++ [c.hp], frs := s2.frs.take q.fr, proof := s2.proof.take q.pr } Fp) ⟨(V4.1, V4.2.1, .slice aP q.pr cP), rfl, hI5⟩ ?_
        clear hI5 hst hB5 FS hI4 hB4 hO4 hG4 hll4 htk4 k0 k1 k2 k3 k4
        rintro w5 ⟨V5, hV5, hI5⟩
        rw [← hV5] at hVG
        obtain ⟨g1, c1, l5, hVG1, hc5, hG5, hll5, htk5, k0, k1, k2, k3, k4⟩ := hI5.m.top hq
        rw [hVG] at hVG1
        injection hVG1 with x1 x2 x3
        injection x1 with x1
        injection x1 with x1
        subst x1 x3
        rw [hqa] at k2
        refine x_then (hK75 _ _ ?_)
        clear hK75 K75
        refine forget [(0, _), (1, _), (6, _)] ⟨rfl, rfl, rfl, trivial⟩ (fun e => ?_)
        refine c_seq (fun K76 hK76 => ?_)
        refine c_pi [(0, false), (1, false), (2, false), (3, false), (4, false), (5, false), (6, false), (7, false), (8, false), (9, false), (10, false), (11, false), (12, false), (13, false), (14, false), (15, false)] (SameH w5.heap) mixed (by kernel_rfl) rfl (by kernel_rfl) (po_then (po_sc (po_blk (po_then (po_blk (po_sc (po_bp))))))) (rfl) ?_ -- region 59 run.go:110
        refine pi_ro rfl (fun w hS => ro_move rfl) ?_
        refine pi_ro rfl (fun w hS => ro_nilCheck rfl) ?_
        refine pi_ro rfl (fun w hS => ro_fieldAddr (k := 0) rfl fo_100_0) ?_
        refine pi_ro rfl (fun w hS => ro_loadB rfl sc_3 (Blk.of_heap hG5 hS) (k0)) ?_
        refine pi_ro rfl (fun w hS => ro_move rfl) ?_
        refine pi_ro rfl (fun w hS => ro_nilCheck rfl) ?_
        refine pi_ro rfl (fun w hS => ro_fieldAddr (k := 1) rfl fo_100_1) ?_
        refine pi_ro rfl (fun w hS => ro_loadB rfl sc_3 (Blk.of_heap hG5 hS) (k1)) ?_
        refine pi_ro rfl (fun w hS => ro_move rfl) ?_
        refine pi_ro rfl (fun w hS => ro_nilCheck rfl) ?_
        refine pi_ro rfl (fun w hS => ro_fieldAddr (k := 2) rfl fo_100_2) ?_
        refine pi_ro rfl (fun w hS => ro_loadB rfl sc_9 (Blk.of_heap hG5 hS) (k2)) ?_
        refine pi_ro rfl (fun w hS => ro_indexS rfl rfl st_9 (rfl) ((rfl : (id :: ids')[0]? = some id))) ?_
        refine pi_ro rfl (fun w hS => ro_assign rfl) ?_
        refine pi_ro rfl (fun w hS => ro_assign rfl) ?_
        refine pi_ro rfl (fun w hS => ro_assign rfl) ?_
        refine gen1 (A := fun w2 => Inv0 w w2 sb L pb V0 s0 V5 { s2 with hp := c.hp, sn := K.reverse.map (·.hp) ++ [c.hp], frs := s2.frs.take q.fr, proof := s2.proof.take q.pr } Fp ∧ Blk w2.heap g0 l5 100) (C := fun w2 => WP _ _ _ _ _ _ w2) ⟨hI5.drew _, hG5⟩ ?_
        clear hI5 hG5
        rintro w5 ⟨hI5, hG5⟩
        refine pi_nil (x_then (hK76 _ _ ?_))
        clear hK76 K76
        refine forget [(0, _), (1, _), (6, _), (7, _), (8, _), (11, _)] ⟨rfl, rfl, rfl, rfl, rfl, rfl, trivial⟩ (fun e => ?_)
        refine c_seq (fun K77 hK77 => ?_)
        refine c_reg ?_ -- region 60 run.go:111
        refine wl (ro_move rfl) ?_
        refine wl (ro_move rfl) ?_
        refine wl (ro_nilCheck rfl) ?_
        refine wl (ro_fieldAddr (k := 2) rfl fo_100_2) ?_
        refine wl (ro_loadB rfl sc_9 (hG5) (k2)) ?_
        refine wl (ro_sliceSL (l := 1) rfl rfl st_9 rfl (by simp)) ?_
        refine wl (ro_nilCheck rfl) ?_
        refine wl (ro_fieldAddr (k := 2) rfl fo_100_2) ?_
        refine wls (so_storeB rfl rfl rfl sz_9 (hG5) ((by omega))) ?_
        have hI6 := hI5.go (hI5.m.alts hq hVG hG5 ids') ⟨rfl, rfl, rfl, rfl, rfl⟩
        refine gen1 (A := fun w6 => Inv0 w w6 sb L pb V0 s0 V5 { s2 with hp := c.hp, sn := K.reverse.map (·.hp) ++ [c.hp], frs := s2.frs.take q.fr, proof := s2.proof.take q.pr, chs := chs ++ [{ q with alts := ids' }] } Fp) (C := fun w6 => WL _ _ _ _ _ w6) hI6 ?_
        clear hI6 hI5 hG5 hll5 htk5 k0 k1 k2 k3 k4
        intro w6 hI6
        obtain ⟨g1, c1, l6, hVG1, hc6, hG6, hll6, htk6, k0, k1, k2, k3, k4⟩ := hI6.m.top rfl
        rw [hVG] at hVG1
        injection hVG1 with x1 x2 x3
        injection x1 with x1
        injection x1 with x1
        subst x1 x3
        simp only at k2
        have hB6 := hI6.m.blk
        have hlv : Value.int .i64 (((chs ++ [{ q with alts := ids' }]).length : Int) - 1) = i64c K.length := by show Value.int _ _ = Value.int _ _; congr 1; simp; omega
        have hTC : ∀ (s' : RSt) (K' : List Ch), RelK s'.cls s'.frs s'.proof s'.chs s'.sn K' → s'.hp = c.hp → s'.frs = s2.frs.take q.fr → s'.proof = s2.proof.take q.pr → s'.inf = s2.inf → s'.cls = s2.cls → K.length ≤ K'.length → K'.length ≤ K.length + 1 → (∀ z ∈ K', z.hp.length ≤ c.hp.length) → s'.fuel = s2.fuel → s'.tried = s2.tried → TryOK s' K' q.goal q.next c.next K.length id := by
          intro s' K' e0 e1 e2 e3 e4 e5 e6 e7 e8 e9 e10
          have hf1 := hCh.fr
          have hp1 := hCh.ip
          refine ⟨e0, e1 ▸ hCh.hok, e1 ▸ hCh.a4, (by rw [e1, hCh.goal]; exact hCh.gl), e1 ▸ hCh.gn, hCh.pw, e6, e7, ?_, ?_, ?_, ?_, ?_, ?_, e1 ▸ e8, by rw [e1, e2]; exact hCh.ft, by rw [e4, e9]; exact hT.iF, by rw [e4, e10]; exact hT.it⟩
          · rw [e3, List.length_take]; omega
          · rw [e3, e4, List.length_take]; omega
          · rw [e2, e4, List.length_take]; omega
          · omega
          · rw [e2]; exact hCh.chain
          · rw [e5]; exact hCh.av id (by rw [hal]; simp)
        refine wl_nil (x_then (hK77 _ _ ?_))
        clear hK77 K77
        refine forget [(0, _), (1, _), (6, _), (7, _), (8, _), (11, _)] ⟨rfl, rfl, rfl, rfl, rfl, rfl, trivial⟩ (fun e => ?_)
        refine c_seq (fun K78 hK78 => ?_)
        refine c_reg ?_ -- region 61 run.go:112
        refine wl (ro_move rfl) ?_
        refine wl (ro_nilCheck rfl) ?_
        refine wl (ro_fieldAddr (k := 10) rfl fo_82_10) ?_
        refine wl_call rfl en_44 (mLen44 hI6.m) ?_
        rintro _ w6 ⟨rfl, rfl⟩
        refine wl ((show RO _ _ _ _ _ (i64c K.length) from hlv ▸ ro_arith rfl rfl rfl (Go.IntWalk.i64_in _ (by simp; omega)))) ?_
        refine wl (ro_assign rfl) ?_
        refine wl_nil (x_then (hK78 _ _ ?_))
        clear hK78 K78
        refine c_seq (fun K79 hK79 => ?_)
        refine c_seq (fun K80 hK80 => ?_)
        refine c_reg ?_ -- region 62 run.go:113
        refine wl (ro_move rfl) ?_
        refine wl (ro_nilCheck rfl) ?_
        refine wl (ro_fieldAddr (k := 2) rfl fo_100_2) ?_
        refine wl (ro_loadB rfl sc_9 (hG6) (k2)) ?_
        refine wl (ro_eqS rfl rfl rfl) ?_
        refine wl_nil (x_then (hK80 _ _ ?_))
        clear hK80 K80
        refine wc_cond rfl (fun hc267 => ?_) (fun hc267 => ?_)
        · try simp only [decide_eq_true_eq, decide_eq_false_iff_not, Bool.not_eq_true', Bool.not_eq_false', Bool.not_eq_eq_eq_not, Bool.not_true, Bool.not_false, beq_iff_eq, bne_iff_ne, ne_eq, beq_eq_false_iff_ne, bne_eq_false_iff_eq, gt_iff_lt, ge_iff_le, Int.not_lt, Int.not_le] at hc267
          rw [if_pos hc267] at hm
          refine c_seq (fun K81 hK81 => ?_)
          refine c_reg ?_ -- region 63 run.go:114
          refine wl (ro_move rfl) ?_
          refine wl (ro_nilCheck rfl) ?_
          refine wl (ro_fieldAddr (k := 10) rfl fo_82_10) ?_
          refine wl_call rfl en_82 (mPop82 hI6.m rfl (by omega)) ?_
          rintro _ w7 ⟨VG7, hst⟩
          obtain ⟨V7, hst⟩ : ∃ V7 : Value × Value × Value, Stp w6 w7 sb L pb V5 V7 { s2 with hp := c.hp, sn := K.reverse.map (·.hp) ++ [c.hp], frs := s2.frs.take q.fr, proof := s2.proof.take q.pr, chs := chs } Fp := ⟨_, hst⟩
          have hI7 := hI6.go hst ⟨rfl, rfl, rfl, rfl, rfl⟩
          clear hI6 hst hB6 hG6
          have hB7 := hI7.m.blk
          refine wl_nil (x_then (hK81 _ _ ?_))
          clear hK81 K81
          refine c_reg ?_ -- region 64 run.go:115
          refine wl (ro_move rfl) ?_
          refine wl (ro_nilCheck rfl) ?_
          refine wl (ro_fieldAddr (k := 0) rfl fo_82_0) ?_
          refine wl (ro_loadB rfl sc_24 (hB7) rfl) ?_
          refine wl (ro_move rfl) ?_
          refine wl_call rfl en_73 (hCut hI7.m.hpr (k := K.length) (by simp)) ?_
          rintro _ w8 ⟨hh, FF⟩
          have hI8 : Inv0 w w8 sb L pb V0 s0 V7 { s2 with hp := c.hp, sn := K.reverse.map (·.hp), frs := s2.frs.take q.fr, proof := s2.proof.take q.pr, chs := chs } Fp := by
            refine hI7.go (Stp.hp hI7.m FF ?_) ⟨rfl, rfl, rfl, rfl, rfl⟩
            simp only at hh
            rw [List.take_append_of_le_length (by simp), List.take_of_length_le (by simp)] at hh
            exact hh
          refine wl_nil (x_then (hK79 _ _ ?_))
          clear hK79 K79
          refine c_goto (x_scG rfl ?_)
          refine ⟨2 * n + 1, by omega, .inl ⟨rfl, n, V7, _, K, q.goal, q.next, c.next, K.length, id, rfl, by omega, hI8, hTC _ K hRel rfl rfl rfl rfl rfl (Nat.le_refl _) (by omega) hlh rfl rfl, ?_, kp _ ⟨rfl, rfl, rfl, rfl, rfl, rfl, trivial⟩⟩⟩
          simp only
          rw [hCh.prf]
          exact hm
        · try simp only [decide_eq_true_eq, decide_eq_false_iff_not, Bool.not_eq_true', Bool.not_eq_false', Bool.not_eq_eq_eq_not, Bool.not_true, Bool.not_false, beq_iff_eq, bne_iff_ne, ne_eq, beq_eq_false_iff_ne, bne_eq_false_iff_eq, gt_iff_lt, ge_iff_le, Int.not_lt, Int.not_le] at hc267
          rw [if_neg hc267] at hm
          refine c_skip (x_then (hK79 _ _ ?_))
          clear hK79 K79
          refine c_goto (x_scG rfl ?_)
          have hCh2 : ChOK s2.cls (s2.frs.take q.fr) (s2.proof.take q.pr) K.length { c with alts := ids' } { q with alts := ids' } := { hCh' with alts := rfl, an := hc267, av := fun x hx => hCh.av x (by rw [hal]; exact List.mem_cons_of_mem _ hx) }
          have hfr1 := hCh.fr
          refine ⟨2 * n + 1, by omega, .inl ⟨rfl, n, V5, _, { c with alts := ids' } :: K, q.goal, q.next, c.next, K.length, id, rfl, by omega, hI6, hTC _ _ (RelK.push hRel hCh2 (by rw [List.length_take]; simp only; omega) (by rw [List.length_take]; simp only; omega) (fun z hz => by have := hlp z hz; have := hCh.pr; rw [List.length_take]; omega) hlh) rfl rfl rfl rfl rfl (by simp) (by simp) (by intro z hz; rcases List.mem_cons.1 hz with rfl | hz; exact Nat.le_refl _; exact hlh z hz) rfl rfl, ?_, kp _ ⟨rfl, rfl, rfl, rfl, rfl, rfl, trivial⟩⟩⟩
          simp only
          rw [hCh.prf]
          rw [hCh.goal] at hm ⊢
          exact hm
  intro l m a' w' hJ rest hr
  · skip
    exact hJ.elim

end Go.Proofs.Qxb6500569aGreat
