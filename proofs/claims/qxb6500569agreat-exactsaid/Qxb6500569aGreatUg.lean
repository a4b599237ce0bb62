import Derived.Test.Qxb6500569aGreatUf
import Derived.Test.Qxb6500569aGreatFd
/- The real reader: goals, vet, parse. -/
namespace Go.Proofs.Qxb6500569aGreat
set_option linter.unusedVariables false
set_option linter.unusedSimpArgs false

theorem goals108q {w : World} {clb rtb n cap : Nat} {a : Option Addr} (hcl : Blk w.heap clb [ptr rtb] 174) (hrt : Blk w.heap rtb [u8c 63, .slice a n cap] 193) :
    Ret Tryz.prog 108 [ptr clb] w (fun r w' => r = .slice a n cap ∧ w' = w) := by
  refine ret_of Tryz.func108 rfl Tryz.ntmps108 rfl ?_
  refine c_seq (fun K1 hK1 => ?_)
  refine c_reg ?_ -- region 0 term.go:41
  refine wl (ro_assign rfl) ?_
  refine wl_nil (x_then (hK1 _ _ ?_))
  clear hK1 K1
  refine c_seq (fun K2 hK2 => ?_)
  refine c_seq (fun K3 hK3 => ?_)
  refine c_reg ?_ -- region 1 term.go:42
  refine wl (ro_move rfl) ?_
  refine wl (ro_nilCheck rfl) ?_
  refine wl (ro_fieldAddr (k := 0) rfl fo_174_0) ?_
  refine wl (ro_loadB rfl sc_155 (hcl) rfl) ?_
  refine wl (ro_nilCheck rfl) ?_
  refine wl (ro_fieldAddr (k := 0) rfl fo_193_0) ?_
  refine wl (ro_loadB rfl sc_5 (hrt) rfl) ?_
  refine wl (ro_cmp rfl rfl rfl) ?_
  refine wl_nil (x_then (hK3 _ _ ?_))
  clear hK3 K3
  refine wc_condF rfl ?_
  refine c_skip (x_then (hK2 _ _ ?_))
  clear hK2 K2
  refine forget [(0, _)] ⟨rfl, trivial⟩ (fun e => ?_)
  refine c_seq (fun K4 hK4 => ?_)
  refine c_reg ?_ -- region 3 term.go:45
  refine wl (ro_move rfl) ?_
  refine wl (ro_nilCheck rfl) ?_
  refine wl (ro_fieldAddr (k := 0) rfl fo_174_0) ?_
  refine wl (ro_loadB rfl sc_155 (hcl) rfl) ?_
  refine wl (ro_nilCheck rfl) ?_
  refine wl (ro_fieldAddr (k := 1) rfl fo_193_1) ?_
  refine wl (ro_loadB rfl sc_190 (hrt) rfl) ?_
  refine wl (ro_assign rfl) ?_
  refine wl_nil (x_then (hK4 _ _ ?_))
  clear hK4 K4
  refine c_ret ?_
  refine bp_ret Tryz.results108 rfl ?_
  exact ⟨rfl, rfl⟩

theorem goals108c {w : World} {clb rtb n cap g : Nat} (hcl : Blk w.heap clb [ptr rtb] 174) (hrt : Blk w.heap rtb [u8c 58, .slice (some ⟨g, 0, none⟩) n cap] 193) (hn : 1 ≤ n) :
    Ret Tryz.prog 108 [ptr clb] w (fun r w' => r = .slice (some (if cap = 1 then ⟨g, 0, none⟩ else ⟨g, 0 + 1 * 1, none⟩)) (n - 1) (cap - 1) ∧ w' = w) := by
  refine ret_of Tryz.func108 rfl Tryz.ntmps108 rfl ?_
  refine c_seq (fun K1 hK1 => ?_)
  refine c_reg ?_ -- region 0 term.go:41
  refine wl (ro_assign rfl) ?_
  refine wl_nil (x_then (hK1 _ _ ?_))
  clear hK1 K1
  refine c_seq (fun K2 hK2 => ?_)
  refine c_seq (fun K3 hK3 => ?_)
  refine c_reg ?_ -- region 1 term.go:42
  refine wl (ro_move rfl) ?_
  refine wl (ro_nilCheck rfl) ?_
  refine wl (ro_fieldAddr (k := 0) rfl fo_174_0) ?_
  refine wl (ro_loadB rfl sc_155 (hcl) rfl) ?_
  refine wl (ro_nilCheck rfl) ?_
  refine wl (ro_fieldAddr (k := 0) rfl fo_193_0) ?_
  refine wl (ro_loadB rfl sc_5 (hrt) rfl) ?_
  refine wl (ro_cmp rfl rfl rfl) ?_
  refine wl_nil (x_then (hK3 _ _ ?_))
  clear hK3 K3
  refine wc_condT rfl ?_
  refine c_seq (fun K4 hK4 => ?_)
  refine c_reg ?_ -- region 2 term.go:43
  refine wl (ro_move rfl) ?_
  refine wl (ro_nilCheck rfl) ?_
  refine wl (ro_fieldAddr (k := 0) rfl fo_174_0) ?_
  refine wl (ro_loadB rfl sc_155 (hcl) rfl) ?_
  refine wl (ro_nilCheck rfl) ?_
  refine wl (ro_fieldAddr (k := 1) rfl fo_193_1) ?_
  refine wl (ro_loadB rfl sc_190 (hrt) rfl) ?_
  refine wl (ro_sliceL (l := 1) rfl rfl se_190 rfl hn) ?_
  refine wl (ro_assign rfl) ?_
  refine wl_nil (x_then (hK4 _ _ ?_))
  clear hK4 K4
  refine c_ret (x_thenR ?_)
  refine bp_ret Tryz.results108 rfl ?_
  exact ⟨rfl, rfl⟩

def ngoals (q : Bool) (n : Nat) : Nat := if q then n else n - 1

theorem goals108 {w : World} {clb rtb : Nat} {q : Bool} {VA : Value} {ks : List (Value × TI)} {B : List Nat} {D : Nat} (hcl : Blk w.heap clb [ptr rtb] 174) (hC : CallB (TAt D w.heap) w.heap rtb (rootF q) VA ks B) (hne : q = false → ks ≠ []) :
    Ret Tryz.prog 108 [ptr clb] w (fun r w' => (∃ a c, r = .slice a (ngoals q ks.length) c) ∧ w' = w) := by
  cases q with
  | true =>
    obtain ⟨a, c, rfl⟩ := hC.own.form
    exact (goals108q hcl hC.blk).mono (by rintro _ w' ⟨rfl, rfl⟩; exact ⟨⟨_, _, rfl⟩, rfl⟩)
  | false =>
    have hk : 1 ≤ ks.length := by have := List.length_pos_iff.2 (hne rfl); omega
    obtain ⟨g, cap, l, rfl, hBl, hc1, hc2, hl1, hl2⟩ := hC.own.pos hk
    exact (goals108c hcl hC.blk hk).mono (by rintro _ w' ⟨rfl, rfl⟩; exact ⟨⟨_, _, rfl⟩, rfl⟩)

def VetR (q : Bool) (n m : Nat) (r : Value) : Prop := if ngoals q n ≤ 3 ∧ m ≤ 6 then r = .nilIface else ∃ b, r = .iface 147 (ptr b)

theorem vet91 {w : World} {clb rtb : Nat} {q : Bool} {VA : Value} {ks : List (Value × TI)} {B : List Nat} {D : Nat} (hcl : Blk w.heap clb [ptr rtb] 174) (hC : CallB (TAt D w.heap) w.heap rtb (rootF q) VA ks B) (hne : q = false → ks ≠ []) (hkl : ks.length ≤ 100) :
    Ret Tryz.prog 91 [ptr clb] w (fun r w' => VetR q ks.length (maxM (ks.map (·.2))) r ∧ Fram none' w w') := by
  have hlt := hC.lt (fun v i h => h.lt)
  have hng : ngoals q ks.length ≤ 100 := by unfold ngoals; split <;> omega
  refine ret_of Tryz.func91 rfl Tryz.ntmps91 rfl ?_
  refine c_seq (fun K1 hK1 => ?_)
  refine c_reg ?_ -- region 0 reader.go:48
  refine wl (ro_assign rfl) ?_
  refine wl_nil (x_then (hK1 _ _ ?_))
  clear hK1 K1
  refine forget [(0, _)] ⟨rfl, trivial⟩ (fun e => ?_)
  refine c_seq (fun K2 hK2 => ?_)
  refine c_reg ?_ -- region 1 reader.go:49
  refine wl (ro_move rfl) ?_
  refine wl_call rfl en_108 (goals108 hcl hC hne) ?_
  rintro _ w ⟨⟨a, c, rfl⟩, rfl⟩
  refine wl (ro_assign rfl) ?_
  refine wl_nil (x_then (hK2 _ _ ?_))
  clear hK2 K2
  refine c_seq (fun K3 hK3 => ?_)
  refine c_seq (fun K4 hK4 => ?_)
  refine c_reg ?_ -- region 2 reader.go:50
  refine wl (ro_move rfl) ?_
  refine wl (ro_lenL rfl se_190) ?_
  refine wl (ro_cmp (r := decide (3 < ngoals q ks.length)) rfl rfl (congrArg some (by simp; omega))) ?_
  refine wl_nil (x_then (hK4 _ _ ?_))
  clear hK4 K4
  refine wc_cond rfl (fun hc11 => ?_) (fun hc11 => ?_)
  · try simp only [decide_eq_true_eq, decide_eq_false_iff_not, Bool.not_eq_true', Bool.not_eq_false', Bool.not_eq_eq_eq_not, Bool.not_true, Bool.not_false, beq_iff_eq, bne_iff_ne, ne_eq, beq_eq_false_iff_ne, bne_eq_false_iff_eq, gt_iff_lt, ge_iff_le, Int.not_lt, Int.not_le] at hc11
    have h3 : 3 < ngoals q ks.length := by simpa using hc11
    refine c_seq (fun K5 hK5 => ?_)
    refine c_reg ?_ -- region 3 reader.go:51
    refine wl (ro_build rfl bld_212_0_1) ?_
    refine wle (eo_box rfl rfl) ?_
    refine wl (ro_mkIface rfl (by kernel_rfl)) ?_
    refine wl (ro_assign rfl) ?_
    refine wl_nil (x_then (hK5 _ _ ?_))
    clear hK5 K5
    refine c_ret (x_thenR ?_)
    refine bp_ret Tryz.results91 rfl ?_
    refine ⟨?_, Fram.alloc _ _ _⟩
    unfold VetR
    rw [if_neg (by omega)]
    exact ⟨_, rfl⟩
  · try simp only [decide_eq_true_eq, decide_eq_false_iff_not, Bool.not_eq_true', Bool.not_eq_false', Bool.not_eq_eq_eq_not, Bool.not_true, Bool.not_false, beq_iff_eq, bne_iff_ne, ne_eq, beq_eq_false_iff_ne, bne_eq_false_iff_eq, gt_iff_lt, ge_iff_le, Int.not_lt, Int.not_le] at hc11
    have h3 : ¬ 3 < ngoals q ks.length := by simpa using hc11
    refine c_skip (x_then (hK3 _ _ ?_))
    clear hK3 K3
    refine forget [(0, _)] ⟨rfl, trivial⟩ (fun e => ?_)
    refine c_seq (fun K6 hK6 => ?_)
    refine c_reg ?_ -- region 4 reader.go:53
    refine wle (eo_alloc ze_3) ?_
    have hN := Blk.new w [i64c 0] 3
    refine wls (so_storeB rfl rfl rfl sz_3 (hN) (by simp)) ?_
    have F1 : Fram none' w (World.setRow (w.alloc (.cells [i64c 0].toArray 3)) w.heap.size [i64c 0].toArray) := (Fram.alloc none' w _).trans' (Fram.set (F := fun b => b = w.heap.size) _ w.heap.size _ (.inl rfl)) (fun k hk hx => absurd hx (by omega))
    have hn := hN.set [i64c 0]
    refine gen2 (A := fun w2 => Blk w2.heap w.heap.size [i64c 0] 3) (B := fun w2 => Fram none' w w2) (C := fun w2 => WL _ _ _ _ _ w2) hn F1 ?_
    clear hn F1 hN
    intro w2 hn F2
    have hC2 := hC.fram F2 (fun _ _ h => h) (fun k hk hb h => h.fram F2 (fun _ _ h => h))
    have hcl2 := hcl.fram F2 (fun h => h)
    refine wl_nil (x_then (hK6 _ _ ?_))
    clear hK6 K6
    refine forget [(0, _), (4, _)] ⟨rfl, rfl, trivial⟩ (fun e => ?_)
    refine c_seq (fun K7 hK7 => ?_)
    refine c_reg ?_ -- region 5 reader.go:54
    refine wl (ro_makeFunc (caps := [.tmp 4]) rfl) ?_
    refine wl (ro_assign rfl) ?_
    refine wl_nil (x_then (hK7 _ _ ?_))
    clear hK7 K7
    refine forget [(0, _), (5, _)] ⟨rfl, rfl, trivial⟩ (fun e => ?_)
    refine c_seq (fun K8 hK8 => ?_)
    refine c_reg ?_ -- region 6 reader.go:60
    refine wl (ro_assign rfl) ?_
    refine wl_nil (x_then (hK8 _ _ ?_))
    clear hK8 K8
    refine c_seq (fun K9 hK9 => ?_)
    refine c_seq (fun K10 hK10 => ?_)
    refine c_reg ?_ -- region 7 reader.go:61
    refine wl (ro_move rfl) ?_
    refine wl (ro_nilCheck rfl) ?_
    refine wl (ro_fieldAddr (k := 0) rfl fo_174_0) ?_
    refine wl (ro_loadB rfl sc_155 (hcl2) rfl) ?_
    refine wl (ro_mkIface rfl (by kernel_rfl)) ?_
    refine wl (ro_move rfl) ?_
    refine wl_call rfl en_122 (walk122c (walk122 D w.heap.size) hC2 (fun b hb ↦ by have := hlt b hb; omega) hn (by omega) (by omega)) ?_
    rintro _ w3 ⟨rfl, ⟨n', hn', _⟩, F3⟩
    have F03 : Fram none' w w3 := F2.trans' F3 (fun k hk hx => absurd hx (by omega))
    refine wl (ro_not rfl) ?_
    refine wl_nil (x_then (hK10 _ _ ?_))
    clear hK10 K10
    refine wc_cond rfl (fun hc23 => ?_) (fun hc23 => ?_)
    · try simp only [decide_eq_true_eq, decide_eq_false_iff_not, Bool.not_eq_true', Bool.not_eq_false', Bool.not_eq_eq_eq_not, Bool.not_true, Bool.not_false, beq_iff_eq, bne_iff_ne, ne_eq, beq_eq_false_iff_ne, bne_eq_false_iff_eq, gt_iff_lt, ge_iff_le, Int.not_lt, Int.not_le] at hc23
      have h6 : ¬ maxM (ks.map (·.2)) ≤ 6 := by simpa using hc23
      refine c_reg ?_ -- region 8 reader.go:62
      refine wl (ro_build rfl bld_212_0_1) ?_
      refine wle (eo_box rfl rfl) ?_
      refine wl (ro_mkIface rfl (by kernel_rfl)) ?_
      refine wl (ro_assign rfl) ?_
      refine wl_nil (x_then (hK9 _ _ ?_))
      clear hK9 K9
      refine forget [(6, _)] ⟨rfl, trivial⟩ (fun e => ?_)
      refine c_seq (fun K11 hK11 => ?_)
      refine c_reg ?_ -- region 9 reader.go:64
      refine wl (ro_move rfl) ?_
      refine wl (ro_assign rfl) ?_
      refine wl_nil (x_then (hK11 _ _ ?_))
      clear hK11 K11
      refine c_ret ?_
      refine bp_ret Tryz.results91 rfl ?_
      refine ⟨?_, F03.thenAlloc⟩
      unfold VetR
      rw [if_neg (by omega)]
      exact ⟨_, rfl⟩
    · try simp only [decide_eq_true_eq, decide_eq_false_iff_not, Bool.not_eq_true', Bool.not_eq_false', Bool.not_eq_eq_eq_not, Bool.not_true, Bool.not_false, beq_iff_eq, bne_iff_ne, ne_eq, beq_eq_false_iff_ne, bne_eq_false_iff_eq, gt_iff_lt, ge_iff_le, Int.not_lt, Int.not_le] at hc23
      have h6 : maxM (ks.map (·.2)) ≤ 6 := by simpa using hc23
      refine c_skip (x_then (hK9 _ _ ?_))
      clear hK9 K9
      refine forget [(6, _)] ⟨rfl, trivial⟩ (fun e => ?_)
      refine c_seq (fun K12 hK12 => ?_)
      refine c_reg ?_ -- region 9 reader.go:64
      refine wl (ro_move rfl) ?_
      refine wl (ro_assign rfl) ?_
      refine wl_nil (x_then (hK12 _ _ ?_))
      clear hK12 K12
      refine c_ret ?_
      refine bp_ret Tryz.results91 rfl ?_
      refine ⟨?_, F03⟩
      unfold VetR
      rw [if_pos (by omega)]

/-- The counts are judged behind the reading. -/
theorem compS_read (s : List UInt8) (q : Bool) : compS s q = (readS s q).bind (fun x => if ngoals q x.1 ≤ 3 ∧ x.2.2 ≤ 6 then some (rootF q :: UInt8.ofNat (48 + x.1) :: x.2.1) else none) := by
  cases q with
  | true =>
    simp only [compS, readS, if_true, bodyS, ngoals, rootF]
    cases PG s [] with
    | none => rfl
    | some r =>
      simp only [Option.bind_some]
      by_cases h : r.rest = []
      · by_cases h2 : r.n ≤ 3 ∧ r.vs.length ≤ 6
        · rw [if_pos ⟨h, h2⟩, if_pos h]
          simp only [Option.bind_some, Option.map_some]
          rw [if_pos h2]
        · rw [if_neg (fun hx => h2 hx.2), if_pos h]
          simp only [Option.bind_some, Option.map_none]
          rw [if_neg h2]
      · rw [if_neg (fun hx => h hx.1), if_neg h]
        rfl
  | false =>
    simp only [compS, readS, Bool.false_eq_true, if_false, bodyS, ngoals, rootF]
    cases hx : Px 1 s [] with
    | none => rfl
    | some hd0 =>
      simp only [Option.bind_some]
      by_cases h : hd0.rest = []
      · by_cases h6 : 6 < hd0.vs.length
        · rw [if_pos h6, if_pos h]
          simp only [Option.bind_some]
          rw [if_neg (by omega)]
        · rw [if_neg h6, if_pos h, if_pos h]
          simp only [Option.bind_some]
          rw [if_pos (by omega)]
          rfl
      · rw [if_neg h]
        rw [if_neg h]
        by_cases hn : pk hd0.rest = 58 ∧ pk hd0.rest.tail = 45
        · rw [if_pos hn, if_pos hn]
          cases hz : PG hd0.rest.tail.tail hd0.vs with
          | none => simp
          | some r =>
            have hvv := pG_vs _ _ _ _ hz
            simp only [Option.bind_some]
            by_cases h6 : 6 < hd0.vs.length
            · rw [if_pos h6]
              by_cases hr : r.rest = []
              · rw [if_pos hr]
                simp only [Option.bind_some]
                rw [if_neg (by omega)]
              · rw [if_neg hr]; rfl
            · rw [if_neg h6]
              by_cases hr : r.rest = []
              · rw [if_pos hr]
                simp only [Option.bind_some]
                by_cases h2 : r.n ≤ 3 ∧ r.vs.length ≤ 6
                · rw [if_pos ⟨hr, h2⟩, if_pos (by omega)]
                  rfl
                · rw [if_neg (fun hx => h2 hx.2), if_neg (by omega)]
                  rfl
              · rw [if_neg hr, if_neg (fun hx => hr hx.1)]
                rfl
        · rw [if_neg hn, if_neg hn]
          split <;> rfl

end Go.Proofs.Qxb6500569aGreat
