import Derived.Test.Qxb6500569aGreatXm
/- The real machine's Check. -/
namespace Go.Proofs.Qxb6500569aGreat
set_option linter.unusedVariables false
set_option linter.unusedSimpArgs false

/-- What Check looks at, in an open machine. -/
structure Chk (s : RSt) : Prop where
  ms : s.sn.length = s.chs.length
  fl : s.fuel ≤ 24
  pi : s.proof.length ≤ s.inf
  iF : s.inf ≤ s.fuel
  it : s.inf ≤ s.tried
  c1 : -1 ≤ s.cont
  c2 : s.cont < (s.frs.length : Int)
  ft : Fit s.frs s.hp.length
  ch : ∀ (i : Nat) (q : Cho), s.chs[i]? = some q → q.goal < s.hp.length ∧ q.alts ≠ [] ∧ -1 ≤ q.next ∧ q.next < (q.fr : Int) ∧ q.fr ≤ s.frs.length ∧ q.pr < s.proof.length
  mo : ∀ (i j : Nat) (qi qj : Cho), i < j → s.chs[i]? = some qi → s.chs[j]? = some qj → qi.fr ≤ qj.fr ∧ qi.pr < qj.pr
  bf : s.frs.length ≤ 1000
  bc : s.chs.length ≤ 1000

theorem chk_of {s : RSt} {K : List Ch} (rel : RelK s.cls s.frs s.proof s.chs s.sn K) (fl : s.fuel ≤ 24) (pi : s.proof.length ≤ s.inf) (iF : s.inf ≤ s.fuel) (it : s.inf ≤ s.tried) (c1 : -1 ≤ s.cont) (c2 : s.cont < (s.frs.length : Int)) (ft : Fit s.frs s.hp.length) (ps : ∀ q ∈ s.chs, q.pr < s.proof.length) (kh : ∀ c ∈ K, c.hp.length ≤ s.hp.length) (bf : s.frs.length ≤ 1000) (bk : K.length ≤ 1000) : Chk s := by
  refine ⟨by rw [rel.sl, rel.len], fl, pi, iF, it, c1, c2, ft, ?_, rel.mono, bf, by rw [rel.len]; exact bk⟩
  intro i q hq
  have hil := (List.getElem?_eq_some_iff.1 hq).1
  obtain ⟨c, hc⟩ : ∃ c, K.reverse[i]? = some c := ⟨_, List.getElem?_eq_getElem (by simp; rw [← rel.len]; exact hil)⟩
  have C := rel.ch i c q hc hq
  have hcm : c ∈ K := by have := List.mem_of_getElem? hc; simpa using this
  have hkc := kh c hcm
  have hg := C.gl
  have hfr := C.fr
  have hch := C.chain
  have hlt := hch.lt
  rw [List.length_take, Nat.min_eq_left hfr] at hlt
  refine ⟨by rw [C.goal]; omega, by rw [C.alts]; exact C.an, ?_, ?_, hfr, ps q (List.mem_of_getElem? hq)⟩
  · rcases hlt with h | h <;> omega
  · rcases hlt with h | h <;> omega

theorem chk_strm {s : RSt} {L : List An} {E : Nat × Nat × Nat} (hfl : s.fuel ≤ 24) (h : Strm s L E) : Chk s := by
  rcases h with ⟨hg, ms, hR, _⟩ | ⟨hg, K, hK, hA, _⟩
  · have h1 := hR.hp
    have h2 := hR.pf
    have h3 := hR.inf
    have h4 := hR.tr
    have hkl := hR.kl
    have hpl := hR.pl
    have hil := hR.il
    have hffl := hR.fl
    have hlt := hR.chain.lt
    refine chk_of hR.rel hfl (by rw [h2, h3]; exact hpl) (by rw [h3]; exact hR.iF) (by rw [h3, h4]; exact hR.it) ?_ ?_ (by rw [h1]; exact hR.ft) (by rw [h2]; exact hR.ps) (by rw [h1]; exact hR.kh) (by omega) (by omega)
    · rcases hlt with h | h <;> omega
    · rcases hlt with h | h <;> omega
  · have hkl := hK.kl
    have hil := hK.il
    have hffl := hK.fl
    have hct := hA.ct
    exact chk_of hK.rel hfl hK.pl hK.iF hK.it (by omega) (by omega) hA.ft hA.ps hA.kh (by omega) (by omega)

theorem hMarks {w : World} {L : HL} {hp : List Nd} {sn : List (List Nd)} (h : HpR w.heap L hp sn) : Ret Tryz.prog 86 [ptr L.h] w (fun r w' => r = i64c sn.length ∧ w' = w) := by
  obtain ⟨R, h1, h2, rfl, rfl⟩ := h
  rw [snaps_len]
  exact Marks86 h1

theorem hTop {w : World} {L : HL} {hp : List Nd} {sn : List (List Nd)} (h : HpR w.heap L hp sn) : Ret Tryz.prog 87 [ptr L.h] w (fun r w' => r = i64c hp.length ∧ w' = w) := by
  obtain ⟨R, h1, h2, rfl, rfl⟩ := h
  rw [abs_length]
  exact Top87 h1

/-- The choice k. -/
theorem SRm.choice {H : Array Obj} {sb pb : Nat} {L : HL} {VF VG VP : Value} {s : RSt} {Fp : Nat → Prop} (M : SRm H sb L pb VF VG VP s Fp) {k : Nat} {q : Cho} (hk : s.chs[k]? = some q) :
    ∃ g c l, VG = .slice (some ⟨g, 0, Option.none⟩) s.chs.length c ∧ Blk H g l 100 ∧ l[k * 5 + 0]? = some (i64c q.goal) ∧ l[k * 5 + 1]? = some (.int .i64 q.next) ∧ l[k * 5 + 2]? = some (S q.alts) ∧ l[k * 5 + 3]? = some (i64c q.fr) ∧ l[k * 5 + 4]? = some (i64c q.pr) := by
  have hl := (List.getElem?_eq_some_iff.1 hk).1
  rcases M.cho.2 with ⟨_, h⟩ | ⟨g, cap, l, h1, h2, h3, h4, h5, h6⟩
  · omega
  · have hx : ∀ j, j < 5 → l[k * 5 + j]? = (chc q)[j]? := by
      intro j hj
      rw [← flat_get (f := chc) (c := 5) (fun a => rfl) hj hk, ← h6, List.getElem?_take_of_lt (by omega)]
    exact ⟨g, cap, l, h1, h2, hx 0 (by omega), hx 1 (by omega), hx 2 (by omega), hx 3 (by omega), hx 4 (by omega)⟩

theorem mAt88 {w : World} {sb pb : Nat} {L : HL} {V : Value × Value × Value} {s : RSt} {Fp : Nat → Prop} (M : SRm w.heap sb L pb V.1 V.2.1 V.2.2 s Fp) {k g c : Nat} (hk : k < s.chs.length) (hV : V.2.1 = .slice (some ⟨g, 0, none⟩) s.chs.length c) :
    Ret Tryz.prog 88 [ptrAt sb 10, i64c k] w (fun r w' => r = ptrAt g (k * 5) ∧ w' = w) := by
  have hB := M.blk
  rw [hV] at hB
  exact At88 hB (k := 10) rfl hk

theorem Check50i {w : World} {sb : Nat} {s : RSt} {F : Nat → Prop} (M : RAll w.heap sb s F) (ho : s.opn = false) (h1 : s.frs = []) (h2 : s.chs = []) (h3 : s.proof = []) (h4 : s.cont = -1) :
    Ret Tryz.prog 50 [ptr sb] w (fun r w' => r = .bool true ∧ w' = w) := by
  obtain ⟨L, pb, V, Fp, M, ok, hF⟩ := M
  have hB := M.blk
  obtain ⟨aP, cP, hVP⟩ := M.pro.form
  rw [ho, hVP, h3, h4] at hB
  refine ret_of Tryz.func50 rfl Tryz.ntmps50 rfl ?_
  refine c_seq (fun K1 hK1 => ?_)
  refine c_reg ?_ -- region 0 solve.go:149
  refine wl (ro_assign rfl) ?_
  refine wl_nil (x_then (hK1 _ _ ?_))
  clear hK1 K1
  refine forget [(0, _)] ⟨rfl, trivial⟩ (fun e => ?_)
  refine c_seq (fun K2 hK2 => ?_)
  refine c_reg ?_ -- region 1 solve.go:150
  refine wl (ro_move rfl) ?_
  refine wl (ro_nilCheck rfl) ?_
  refine wl (ro_fieldAddr (k := 9) rfl fo_82_9) ?_
  refine wl_call rfl en_59 (mLen59 M) ?_
  rintro _ w ⟨rfl, rfl⟩
  rw [h1]
  refine wl (ro_assign rfl) ?_
  refine wl_nil (x_then (hK2 _ _ ?_))
  clear hK2 K2
  refine forget [(0, _), (3, _)] ⟨rfl, rfl, trivial⟩ (fun e => ?_)
  refine c_seq (fun K3 hK3 => ?_)
  refine c_reg ?_ -- region 2 solve.go:151
  refine wl (ro_move rfl) ?_
  refine wl (ro_nilCheck rfl) ?_
  refine wl (ro_fieldAddr (k := 10) rfl fo_82_10) ?_
  refine wl_call rfl en_44 (mLen44 M) ?_
  rintro _ w ⟨rfl, rfl⟩
  rw [h2]
  refine wl (ro_assign rfl) ?_
  refine wl_nil (x_then (hK3 _ _ ?_))
  clear hK3 K3
  refine c_seq (fun K4 hK4 => ?_)
  refine c_seq (fun K5 hK5 => ?_)
  refine c_reg ?_ -- region 3 solve.go:152
  refine wl (ro_move rfl) ?_
  refine wl (ro_nilCheck rfl) ?_
  refine wl (ro_fieldAddr (k := 2) rfl fo_82_2) ?_
  refine wl (ro_loadB rfl sc_4 (by assumption) rfl) ?_
  refine wl (ro_not rfl) ?_
  refine wl_nil (x_then (hK5 _ _ ?_))
  clear hK5 K5
  refine wc_condT rfl ?_
  refine c_seq (fun K6 hK6 => ?_)
  refine c_reg ?_ -- region 4 solve.go:153
  refine wl (ro_move rfl) ?_
  refine wl (ro_cmp (r := true) rfl rfl (by simp)) ?_
  refine wl (ro_move rfl) ?_
  refine wlg_yes rfl (ro_move rfl) ?_
  refine wlg_yes rfl (ro_cmp (r := true) rfl rfl (by simp)) ?_
  refine wl (ro_pick rfl rfl rfl) ?_
  refine wl (ro_move rfl) ?_
  refine wlg_yes rfl (ro_move rfl) ?_
  refine wlg_yes rfl (ro_nilCheck rfl) ?_
  refine wlg_yes rfl (ro_fieldAddr (k := 11) rfl fo_82_11) ?_
  refine wlg_yes rfl (ro_loadB rfl sc_66 (by assumption) rfl) ?_
  refine wlg_yes rfl (ro_lenL rfl se_66) ?_
  refine wlg_yes rfl (ro_cmp (r := true) rfl rfl (by simp)) ?_
  refine wl (ro_pick rfl rfl rfl) ?_
  refine wl (ro_move rfl) ?_
  refine wlg_yes rfl (ro_move rfl) ?_
  refine wlg_yes rfl (ro_nilCheck rfl) ?_
  refine wlg_yes rfl (ro_fieldAddr (k := 8) rfl fo_82_8) ?_
  refine wlg_yes rfl (ro_loadB rfl sc_3 (by assumption) rfl) ?_
  refine wlg_yes rfl (ro_cmp (r := true) rfl rfl (by simp)) ?_
  refine wl (ro_pick rfl rfl rfl) ?_
  refine wl (ro_assign rfl) ?_
  refine wl_nil (x_then (hK6 _ _ ?_))
  clear hK6 K6
  refine c_ret (x_thenR ?_)
  refine bp_ret Tryz.results50 rfl ?_
  exact ⟨rfl, rfl⟩

set_option maxHeartbeats 2000000 in
theorem Check50 {w : World} {sb : Nat} {s : RSt} {F : Nat → Prop} (M : RAll w.heap sb s F) (ho : s.opn = true) (C : Chk s) : Ret Tryz.prog 50 [ptr sb] w (fun r w' => r = .bool true ∧ Fram none' w w') := by
  obtain ⟨L, pb, V, Fp, M, ok, hF⟩ := M
  obtain ⟨aP, cP, hVP⟩ := M.pro.form
  have hBlk : ∀ {w' : World}, Fram none' w w' → Blk w'.heap sb [ptr L.h, ptr pb, .bool true, S s.q, i64c s.fuel, i64c s.given, i64c s.inf, i64c s.tried, .int .i64 s.cont, V.1, V.2.1, .slice aP s.proof.length cP] 82 := by
    intro w' F'
    have := (M.none F').blk
    rw [ho, hVP] at this
    exact this
  have hB := hBlk (Fram.refl none' w)
  have c1 := C.ms
  have c2 := C.fl
  have c3 := C.pi
  have c4 := C.iF
  have c5 := C.it
  have c6 := C.c1
  have c7 := C.c2
  have c8 := C.bf
  have c9 := C.bc
  refine ret_of Tryz.func50 rfl Tryz.ntmps50 rfl ?_
  refine c_seq (fun K1 hK1 => ?_)
  refine c_reg ?_ -- region 0 solve.go:149
  refine wl (ro_assign rfl) ?_
  refine wl_nil (x_then (hK1 _ _ ?_))
  clear hK1 K1
  refine forget [(0, _)] ⟨rfl, trivial⟩ (fun e => ?_)
  refine c_seq (fun K2 hK2 => ?_)
  refine c_reg ?_ -- region 1 solve.go:150
  refine wl (ro_move rfl) ?_
  refine wl (ro_nilCheck rfl) ?_
  refine wl (ro_fieldAddr (k := 9) rfl fo_82_9) ?_
  refine wl_call rfl en_59 (mLen59 M) ?_
  rintro _ w ⟨rfl, rfl⟩
  refine wl (ro_assign rfl) ?_
  refine wl_nil (x_then (hK2 _ _ ?_))
  clear hK2 K2
  refine forget [(0, _), (3, _)] ⟨rfl, rfl, trivial⟩ (fun e => ?_)
  refine c_seq (fun K3 hK3 => ?_)
  refine c_reg ?_ -- region 2 solve.go:151
  refine wl (ro_move rfl) ?_
  refine wl (ro_nilCheck rfl) ?_
  refine wl (ro_fieldAddr (k := 10) rfl fo_82_10) ?_
  refine wl_call rfl en_44 (mLen44 M) ?_
  rintro _ w ⟨rfl, rfl⟩
  refine wl (ro_assign rfl) ?_
  refine wl_nil (x_then (hK3 _ _ ?_))
  clear hK3 K3
  refine c_seq (fun K4 hK4 => ?_)
  refine c_seq (fun K5 hK5 => ?_)
  refine c_reg ?_ -- region 3 solve.go:152
  refine wl (ro_move rfl) ?_
  refine wl (ro_nilCheck rfl) ?_
  refine wl (ro_fieldAddr (k := 2) rfl fo_82_2) ?_
  refine wl (ro_loadB rfl sc_4 (by assumption) rfl) ?_
  refine wl (ro_not rfl) ?_
  refine wl_nil (x_then (hK5 _ _ ?_))
  clear hK5 K5
  refine wc_condF rfl ?_
  refine c_skip (x_then (hK4 _ _ ?_))
  clear hK4 K4
  refine forget [(0, _), (3, _), (4, _)] ⟨rfl, rfl, rfl, trivial⟩ (fun e => ?_)
  refine c_seq (fun K6 hK6 => ?_)
  refine c_reg ?_ -- region 5 solve.go:155
  refine wl (ro_move rfl) ?_
  refine wl (ro_nilCheck rfl) ?_
  refine wl (ro_fieldAddr (k := 0) rfl fo_82_0) ?_
  refine wl (ro_loadB rfl sc_24 (by assumption) rfl) ?_
  refine wl_call rfl en_86 (hMarks M.hpr) ?_
  rintro _ w ⟨rfl, rfl⟩
  refine wl (ro_assign rfl) ?_
  refine wl_nil (x_then (hK6 _ _ ?_))
  clear hK6 K6
  refine c_seq (fun K7 hK7 => ?_)
  refine c_seq (fun K8 hK8 => ?_)
  refine c_reg ?_ -- region 6 solve.go:156
  refine wl (ro_move rfl) ?_
  refine wl (ro_move rfl) ?_
  refine wl (ro_cmp (r := false) rfl rfl (by simp; omega)) ?_
  refine wl_nil (x_then (hK8 _ _ ?_))
  clear hK8 K8
  refine wc_condF rfl ?_
  refine c_skip (x_then (hK7 _ _ ?_))
  clear hK7 K7
  refine c_seq (fun K9 hK9 => ?_)
  refine c_seq (fun K10 hK10 => ?_)
  refine c_reg ?_ -- region 8 solve.go:159
  refine wl (ro_move rfl) ?_
  refine wl (ro_nilCheck rfl) ?_
  refine wl (ro_fieldAddr (k := 4) rfl fo_82_4) ?_
  refine wl (ro_loadB rfl sc_3 (by assumption) rfl) ?_
  refine wl (ro_cmp (r := false) rfl rfl (by simp)) ?_
  refine wl (ro_move rfl) ?_
  refine wlg_yes rfl (ro_move rfl) ?_
  refine wlg_yes rfl (ro_nilCheck rfl) ?_
  refine wlg_yes rfl (ro_fieldAddr (k := 4) rfl fo_82_4) ?_
  refine wlg_yes rfl (ro_loadB rfl sc_3 (by assumption) rfl) ?_
  refine wlg_yes rfl (ro_cmp (r := false) rfl rfl (by simp; omega)) ?_
  refine wl (ro_pick rfl rfl rfl) ?_
  refine wl (ro_move rfl) ?_
  refine wlg_yes rfl (ro_move rfl) ?_
  refine wlg_yes rfl (ro_nilCheck rfl) ?_
  refine wlg_yes rfl (ro_fieldAddr (k := 5) rfl fo_82_5) ?_
  refine wlg_yes rfl (ro_loadB rfl sc_3 (by assumption) rfl) ?_
  refine wlg_yes rfl (ro_cmp (r := false) rfl rfl (by simp)) ?_
  refine wl (ro_pick rfl rfl rfl) ?_
  refine wl_nil (x_then (hK10 _ _ ?_))
  clear hK10 K10
  refine wc_condF rfl ?_
  refine c_skip (x_then (hK9 _ _ ?_))
  clear hK9 K9
  refine c_seq (fun K11 hK11 => ?_)
  refine c_seq (fun K12 hK12 => ?_)
  refine c_pi [(0, false), (1, false), (2, false), (3, false), (4, false), (5, false), (6, false), (7, false), (8, false), (9, false), (10, false), (11, false), (12, false), (13, false), (14, false), (15, false), (16, false), (17, false), (18, false), (19, false), (20, false), (21, false), (22, false), (23, false), (24, false), (25, false), (26, false), (27, false), (28, false), (29, false), (30, false), (31, false)] (SameH w.heap) mixed (by kernel_rfl) rfl (by kernel_rfl) (po_then (po_then (po_bp))) (rfl) ?_ -- region 10 solve.go:162
  refine pi_ro rfl (fun w hS => ro_move rfl) ?_
  refine pi_ro rfl (fun w hS => ro_nilCheck rfl) ?_
  refine pi_ro rfl (fun w hS => ro_fieldAddr (k := 11) rfl fo_82_11) ?_
  refine pi_ro rfl (fun w hS => ro_loadB rfl sc_66 (Blk.of_heap (by assumption) hS) rfl) ?_
  refine pi_ro rfl (fun w hS => ro_lenL rfl se_66) ?_
  refine pi_ro rfl (fun w hS => ro_move rfl) ?_
  refine pi_ro rfl (fun w hS => ro_nilCheck rfl) ?_
  refine pi_ro rfl (fun w hS => ro_fieldAddr (k := 6) rfl fo_82_6) ?_
  refine pi_ro rfl (fun w hS => ro_loadB rfl sc_3 (Blk.of_heap (by assumption) hS) rfl) ?_
  refine pi_ro rfl (fun w hS => ro_cmp (r := false) rfl rfl (by simp; omega)) ?_
  refine pi_ro rfl (fun w hS => ro_move rfl) ?_
  refine pi_gyes rfl rfl (fun w hS => ro_move rfl) ?_
  refine pi_gyes rfl rfl (fun w hS => ro_nilCheck rfl) ?_
  refine pi_gyes rfl rfl (fun w hS => ro_fieldAddr (k := 6) rfl fo_82_6) ?_
  refine pi_gyes rfl rfl (fun w hS => ro_loadB rfl sc_3 (Blk.of_heap (by assumption) hS) rfl) ?_
  refine pi_gyes rfl rfl (fun w hS => ro_move rfl) ?_
  refine pi_gyes rfl rfl (fun w hS => ro_nilCheck rfl) ?_
  refine pi_gyes rfl rfl (fun w hS => ro_fieldAddr (k := 4) rfl fo_82_4) ?_
  refine pi_gyes rfl rfl (fun w hS => ro_loadB rfl sc_3 (Blk.of_heap (by assumption) hS) rfl) ?_
  refine pi_gyes rfl rfl (fun w hS => ro_cmp (r := false) rfl rfl (by simp; omega)) ?_
  refine pi_ro rfl (fun w hS => ro_pick rfl rfl rfl) ?_
  refine pi_ro rfl (fun w hS => ro_move rfl) ?_
  refine pi_gyes rfl rfl (fun w hS => ro_move rfl) ?_
  refine pi_gyes rfl rfl (fun w hS => ro_nilCheck rfl) ?_
  refine pi_gyes rfl rfl (fun w hS => ro_fieldAddr (k := 6) rfl fo_82_6) ?_
  refine pi_gyes rfl rfl (fun w hS => ro_loadB rfl sc_3 (Blk.of_heap (by assumption) hS) rfl) ?_
  refine pi_gyes rfl rfl (fun w hS => ro_move rfl) ?_
  refine pi_gyes rfl rfl (fun w hS => ro_nilCheck rfl) ?_
  refine pi_gyes rfl rfl (fun w hS => ro_fieldAddr (k := 7) rfl fo_82_7) ?_
  refine pi_gyes rfl rfl (fun w hS => ro_loadB rfl sc_3 (Blk.of_heap (by assumption) hS) rfl) ?_
  refine pi_gyes rfl rfl (fun w hS => ro_cmp (r := false) rfl rfl (by simp; omega)) ?_
  refine pi_ro rfl (fun w hS => ro_pick rfl rfl rfl) ?_
  refine gen1 (A := fun w1 => Fram none' w w1) (C := fun w1 => WP _ _ _ _ _ _ w1) (Fram.drew _ _ _) ?_
  clear hB
  intro w1 F1
  have hB := hBlk F1
  refine pi_nil (x_then (hK12 _ _ ?_))
  clear hK12 K12
  refine wc_condF rfl ?_
  refine c_skip (x_then (hK11 _ _ ?_))
  clear hK11 K11
  refine c_seq (fun K13 hK13 => ?_)
  refine c_seq (fun K14 hK14 => ?_)
  refine c_reg ?_ -- region 12 solve.go:165
  refine wl (ro_move rfl) ?_
  refine wl (ro_nilCheck rfl) ?_
  refine wl (ro_fieldAddr (k := 8) rfl fo_82_8) ?_
  refine wl (ro_loadB rfl sc_3 (by assumption) rfl) ?_
  refine wl (ro_cmp (r := false) rfl rfl (by simp; omega)) ?_
  refine wl (ro_move rfl) ?_
  refine wlg_yes rfl (ro_move rfl) ?_
  refine wlg_yes rfl (ro_nilCheck rfl) ?_
  refine wlg_yes rfl (ro_fieldAddr (k := 8) rfl fo_82_8) ?_
  refine wlg_yes rfl (ro_loadB rfl sc_3 (by assumption) rfl) ?_
  refine wlg_yes rfl (ro_move rfl) ?_
  refine wlg_yes rfl (ro_cmp (r := false) rfl rfl (by simp; omega)) ?_
  refine wl (ro_pick rfl rfl rfl) ?_
  refine wl_nil (x_then (hK14 _ _ ?_))
  clear hK14 K14
  refine wc_condF rfl ?_
  refine c_skip (x_then (hK13 _ _ ?_))
  clear hK13 K13
  refine forget [(0, _), (3, _), (4, _)] ⟨rfl, rfl, rfl, trivial⟩ (fun e => ?_)
  refine c_seq (fun K15 hK15 => ?_)
  refine c_reg ?_ -- region 14 solve.go:168
  refine wl (ro_move rfl) ?_
  refine wl (ro_nilCheck rfl) ?_
  refine wl (ro_fieldAddr (k := 0) rfl fo_82_0) ?_
  refine wl (ro_loadB rfl sc_24 (by assumption) rfl) ?_
  refine wl_call rfl en_87 (hTop (M.none F1).hpr) ?_
  rintro _ w1 ⟨rfl, rfl⟩
  refine wl (ro_assign rfl) ?_
  refine wl_nil (x_then (hK15 _ _ ?_))
  clear hK15 K15
  refine c_seq (fun K16 hK16 => ?_)
  refine c_seq (fun K17 hK17 => ?_)
  refine c_reg ?_ -- region 15 solve.go:169
  refine wl (ro_move rfl) ?_
  refine wl (ro_move rfl) ?_
  refine wl_nil (x_then (hK17 _ _ ?_))
  clear hK17 K17
  refine c_block ?_
  -- loop@r16: live slots [0, 3, 4, 6, 124, 125]
  refine c_loopG (fun m a' w' => ∃ (i : Nat), m = s.frs.length - i ∧ i ≤ s.frs.length ∧ w' = w1 ∧ ∃ e, a' = Fr 253 (upds e [(0, ptr sb), (3, i64c s.frs.length), (4, i64c s.chs.length), (6, i64c s.hp.length), (124, i64c s.frs.length), (125, i64c i)]) []) s.frs.length ⟨0, by omega, by omega, rfl, kp _ ⟨rfl, rfl, rfl, rfl, rfl, rfl, trivial⟩⟩ ?_
  rintro m a' w' ⟨i, rfl, hi, rfl, e, rfl⟩
  refine c_seq (fun K18 hK18 => ?_)
  refine c_reg ?_ -- region 16 solve.go:169
  refine wl (ro_cmp rfl rfl rfl) ?_
  refine wl_nil (x_then (hK18 _ _ ?_))
  clear hK18 K18
  refine forget [(0, _), (3, _), (4, _), (6, _), (124, _), (125, _), (126, _)] ⟨rfl, rfl, rfl, rfl, rfl, rfl, rfl, trivial⟩ (fun e => ?_)
  refine c_seq (fun K19 hK19 => ?_)
  refine wc_cond rfl (fun hc126 => ?_) (fun hc126 => ?_)
  · try simp only [decide_eq_true_eq, decide_eq_false_iff_not, Bool.not_eq_true', Bool.not_eq_false', Bool.not_eq_eq_eq_not, Bool.not_true, Bool.not_false, beq_iff_eq, bne_iff_ne, ne_eq, beq_eq_false_iff_ne, bne_eq_false_iff_eq, gt_iff_lt, ge_iff_le, Int.not_lt, Int.not_le] at hc126
    have hil : i < s.frs.length := by omega
    obtain ⟨f, hf⟩ : ∃ f, s.frs[i]? = some f := ⟨_, List.getElem?_eq_getElem hil⟩
    have hft := C.ft i f hf
    obtain ⟨g0, c0, l0, hVF, hG, k0, k1, k2⟩ := (M.none F1).frame hf
    refine c_skip (x_then (hK19 _ _ ?_))
    clear hK19 K19
    refine forget [(0, _), (3, _), (4, _), (6, _), (124, _), (125, _)] ⟨rfl, rfl, rfl, rfl, rfl, rfl, trivial⟩ (fun e => ?_)
    refine c_seq (fun K20 hK20 => ?_)
    refine c_block ?_
    refine c_seq (fun K21 hK21 => ?_)
    refine c_reg ?_ -- region 17 solve.go:169
    refine wl (ro_move rfl) ?_
    refine wl (ro_assign rfl) ?_
    refine wl_nil (x_then (hK21 _ _ ?_))
    clear hK21 K21
    refine forget [(0, _), (3, _), (4, _), (6, _), (7, _), (124, _), (125, _)] ⟨rfl, rfl, rfl, rfl, rfl, rfl, rfl, trivial⟩ (fun e => ?_)
    refine c_seq (fun K22 hK22 => ?_)
    refine c_reg ?_ -- region 18 solve.go:170
    refine wl (ro_move rfl) ?_
    refine wl (ro_nilCheck rfl) ?_
    refine wl (ro_fieldAddr (k := 9) rfl fo_82_9) ?_
    refine wl (ro_move rfl) ?_
    refine wl_call rfl en_70 (mAt70 (M.none F1) hil hVF) ?_
    rintro _ w' ⟨rfl, rfl⟩
    refine wl (ro_assign rfl) ?_
    refine wl_nil (x_then (hK22 _ _ ?_))
    clear hK22 K22
    refine c_seq (fun K23 hK23 => ?_)
    refine c_seq (fun K24 hK24 => ?_)
    refine c_reg ?_ -- region 19 solve.go:171
    refine wl (ro_move rfl) ?_
    refine wl (ro_nilCheck rfl) ?_
    refine wl (ro_fieldAddr (k := 0) rfl fo_117_0) ?_
    refine wl (ro_loadB rfl sc_3 (hG) (k0)) ?_
    refine wl (ro_cmp (r := false) rfl rfl (by simp)) ?_
    refine wl (ro_move rfl) ?_
    refine wlg_yes rfl (ro_move rfl) ?_
    refine wlg_yes rfl (ro_nilCheck rfl) ?_
    refine wlg_yes rfl (ro_fieldAddr (k := 0) rfl fo_117_0) ?_
    refine wlg_yes rfl (ro_loadB rfl sc_3 (hG) (k0)) ?_
    refine wlg_yes rfl (ro_move rfl) ?_
    refine wlg_yes rfl (ro_cmp (r := false) rfl rfl (by simp; omega)) ?_
    refine wl (ro_pick rfl rfl rfl) ?_
    refine wl_nil (x_then (hK24 _ _ ?_))
    clear hK24 K24
    refine wc_condF rfl ?_
    refine c_skip (x_then (hK23 _ _ ?_))
    clear hK23 K23
    refine forget [(0, _), (3, _), (4, _), (6, _), (7, _), (8, _), (124, _), (125, _), (139, _), (140, _), (141, _), (142, _), (143, _), (144, _)] ⟨rfl, rfl, rfl, rfl, rfl, rfl, rfl, rfl, rfl, rfl, rfl, rfl, rfl, rfl, trivial⟩ (fun e => ?_)
    refine c_seq (fun K25 hK25 => ?_)
    refine c_reg ?_ -- region 21 solve.go:174
    refine wl (ro_move rfl) ?_
    refine wl (ro_nilCheck rfl) ?_
    refine wl (ro_fieldAddr (k := 1) rfl fo_117_1) ?_
    refine wl (ro_loadB rfl sc_3 (hG) (k1)) ?_
    refine wl (ro_cmp (r := false) rfl rfl (by simp; omega)) ?_
    refine wl (ro_move rfl) ?_
    refine wlg_yes rfl (ro_move rfl) ?_
    refine wlg_yes rfl (ro_nilCheck rfl) ?_
    refine wlg_yes rfl (ro_fieldAddr (k := 1) rfl fo_117_1) ?_
    refine wlg_yes rfl (ro_loadB rfl sc_3 (hG) (k1)) ?_
    refine wlg_yes rfl (ro_move rfl) ?_
    refine wlg_yes rfl (ro_cmp (r := false) rfl rfl (by simp; omega)) ?_
    refine wl (ro_pick rfl rfl rfl) ?_
    refine wl (ro_move rfl) ?_
    refine wlg_yes rfl (ro_move rfl) ?_
    refine wlg_yes rfl (ro_nilCheck rfl) ?_
    refine wlg_yes rfl (ro_fieldAddr (k := 2) rfl fo_117_2) ?_
    refine wlg_yes rfl (ro_loadB rfl sc_3 (hG) (k2)) ?_
    refine wlg_yes rfl (ro_cmp (r := false) rfl rfl (by simp)) ?_
    refine wl (ro_pick rfl rfl rfl) ?_
    refine wl_nil (x_then (hK25 _ _ ?_))
    clear hK25 K25
    refine wc_condF rfl ?_
    refine c_skip (x_blk (x_then (hK20 _ _ ?_)))
    clear hK20 K20
    refine c_reg ?_ -- region 23 solve.go:169
    refine wl (ro_arith rfl rfl rfl (Go.IntWalk.i64_in _ (by omega))) ?_
    refine wl (ro_move rfl) ?_
    refine wl_nil (x_then ?_)
    exact ⟨s.frs.length - (i + 1), by omega, i + 1, rfl, by omega, rfl, kp _ ⟨rfl, rfl, rfl, rfl, rfl, rfl, trivial⟩⟩
  · try simp only [decide_eq_true_eq, decide_eq_false_iff_not, Bool.not_eq_true', Bool.not_eq_false', Bool.not_eq_eq_eq_not, Bool.not_true, Bool.not_false, beq_iff_eq, bne_iff_ne, ne_eq, beq_eq_false_iff_ne, bne_eq_false_iff_eq, gt_iff_lt, ge_iff_le, Int.not_lt, Int.not_le] at hc126
    refine c_exit (x_thenX (x_thenX (x_blkX (x_then (hK16 _ _ ?_)))))
    clear hK19 K19 hK16 K16
    refine forget [(0, _), (3, _), (4, _), (6, _)] ⟨rfl, rfl, rfl, rfl, trivial⟩ (fun e => ?_)
    refine c_seq (fun K26 hK26 => ?_)
    refine c_reg ?_ -- region 24 solve.go:178
    refine wl (ro_assign rfl) ?_
    refine wl (ro_assign rfl) ?_
    refine wl_nil (x_then (hK26 _ _ ?_))
    clear hK26 K26
    refine c_seq (fun K27 hK27 => ?_)
    refine c_seq (fun K28 hK28 => ?_)
    refine c_reg ?_ -- region 25 solve.go:179
    refine wl (ro_move rfl) ?_
    refine wl (ro_move rfl) ?_
    refine wl_nil (x_then (hK28 _ _ ?_))
    clear hK28 K28
    refine c_block ?_
    -- loop@r26: live slots [0, 3, 6, 9, 10, 167, 168]
    refine c_loopG (fun m a' w' => ∃ (i lf : Nat) (lp : Int), m = s.chs.length - i ∧ i ≤ s.chs.length ∧ Fram none' w w' ∧ (∀ j q, i ≤ j → s.chs[j]? = some q → lf ≤ q.fr ∧ lp < (q.pr : Int)) ∧ ∃ e, a' = Fr 253 (upds e [(0, ptr sb), (3, i64c s.frs.length), (6, i64c s.hp.length), (9, i64c lf), (10, .int .i64 lp), (167, i64c s.chs.length), (168, i64c i)]) []) s.chs.length ⟨0, 0, -1, by omega, by omega, F1, fun j q _ _ => ⟨Nat.zero_le _, by omega⟩, kp _ ⟨rfl, rfl, rfl, rfl, rfl, rfl, rfl, trivial⟩⟩ ?_
    clear hB F1
    rintro m a' w2 ⟨i, lf, lp, rfl, hi, F2, hlow, e, rfl⟩
    have hB := hBlk F2
    refine c_seq (fun K29 hK29 => ?_)
    refine c_reg ?_ -- region 26 solve.go:179
    refine wl (ro_cmp rfl rfl rfl) ?_
    refine wl_nil (x_then (hK29 _ _ ?_))
    clear hK29 K29
    refine forget [(0, _), (3, _), (6, _), (9, _), (10, _), (167, _), (168, _), (169, _)] ⟨rfl, rfl, rfl, rfl, rfl, rfl, rfl, rfl, trivial⟩ (fun e => ?_)
    refine c_seq (fun K30 hK30 => ?_)
    refine wc_cond rfl (fun hc169 => ?_) (fun hc169 => ?_)
    · try simp only [decide_eq_true_eq, decide_eq_false_iff_not, Bool.not_eq_true', Bool.not_eq_false', Bool.not_eq_eq_eq_not, Bool.not_true, Bool.not_false, beq_iff_eq, bne_iff_ne, ne_eq, beq_eq_false_iff_ne, bne_eq_false_iff_eq, gt_iff_lt, ge_iff_le, Int.not_lt, Int.not_le] at hc169
      have hil : i < s.chs.length := by omega
      obtain ⟨q, hq⟩ : ∃ q, s.chs[i]? = some q := ⟨_, List.getElem?_eq_getElem hil⟩
      obtain ⟨d1, d2, d3, d4, d5, d6⟩ := C.ch i q hq
      obtain ⟨d7, d8⟩ := hlow i q (Nat.le_refl _) hq
      obtain ⟨g0, c0, l0, hVG, hG, k0, k1, k2, k3, k4⟩ := (M.none F2).choice hq
      refine c_skip (x_then (hK30 _ _ ?_))
      clear hK30 K30
      refine forget [(0, _), (3, _), (6, _), (9, _), (10, _), (167, _), (168, _)] ⟨rfl, rfl, rfl, rfl, rfl, rfl, rfl, trivial⟩ (fun e => ?_)
      refine c_seq (fun K31 hK31 => ?_)
      refine c_block ?_
      refine c_seq (fun K32 hK32 => ?_)
      refine c_reg ?_ -- region 27 solve.go:179
      refine wl (ro_move rfl) ?_
      refine wl (ro_assign rfl) ?_
      refine wl_nil (x_then (hK32 _ _ ?_))
      clear hK32 K32
      refine forget [(0, _), (3, _), (6, _), (9, _), (10, _), (11, _), (167, _), (168, _)] ⟨rfl, rfl, rfl, rfl, rfl, rfl, rfl, rfl, trivial⟩ (fun e => ?_)
      refine c_seq (fun K33 hK33 => ?_)
      refine c_reg ?_ -- region 28 solve.go:180
      refine wl (ro_move rfl) ?_
      refine wl (ro_nilCheck rfl) ?_
      refine wl (ro_fieldAddr (k := 10) rfl fo_82_10) ?_
      refine wl (ro_move rfl) ?_
      refine wl_call rfl en_88 (mAt88 (M.none F2) hil hVG) ?_
      rintro _ w2 ⟨rfl, rfl⟩
      refine wl (ro_assign rfl) ?_
      refine wl_nil (x_then (hK33 _ _ ?_))
      clear hK33 K33
      refine c_seq (fun K34 hK34 => ?_)
      refine c_seq (fun K35 hK35 => ?_)
      refine c_reg ?_ -- region 29 solve.go:181
      refine wl (ro_move rfl) ?_
      refine wl (ro_nilCheck rfl) ?_
      refine wl (ro_fieldAddr (k := 0) rfl fo_100_0) ?_
      refine wl (ro_loadB rfl sc_3 (hG) (k0)) ?_
      refine wl (ro_cmp (r := false) rfl rfl (by simp)) ?_
      refine wl (ro_move rfl) ?_
      refine wlg_yes rfl (ro_move rfl) ?_
      refine wlg_yes rfl (ro_nilCheck rfl) ?_
      refine wlg_yes rfl (ro_fieldAddr (k := 0) rfl fo_100_0) ?_
      refine wlg_yes rfl (ro_loadB rfl sc_3 (hG) (k0)) ?_
      refine wlg_yes rfl (ro_move rfl) ?_
      refine wlg_yes rfl (ro_cmp (r := false) rfl rfl (by simp; omega)) ?_
      refine wl (ro_pick rfl rfl rfl) ?_
      refine wl (ro_move rfl) ?_
      refine wlg_yes rfl (ro_move rfl) ?_
      refine wlg_yes rfl (ro_nilCheck rfl) ?_
      refine wlg_yes rfl (ro_fieldAddr (k := 2) rfl fo_100_2) ?_
      refine wlg_yes rfl (ro_loadB rfl sc_9 (hG) (k2)) ?_
      refine wlg_yes rfl (ro_eqS (r := false) rfl rfl (by simp [d2])) ?_
      refine wl (ro_pick rfl rfl rfl) ?_
      refine wl_nil (x_then (hK35 _ _ ?_))
      clear hK35 K35
      refine wc_condF rfl ?_
      refine c_skip (x_then (hK34 _ _ ?_))
      clear hK34 K34
      refine c_seq (fun K36 hK36 => ?_)
      refine c_seq (fun K37 hK37 => ?_)
      refine c_pi [(0, false), (1, false), (2, false), (3, false), (4, false), (5, false), (6, false), (7, false), (8, false), (9, false), (10, false), (11, false), (12, false), (13, false), (14, false), (15, false)] (SameH w2.heap) mixed (by kernel_rfl) rfl (by kernel_rfl) (po_then (po_then (po_blk (po_then (po_then (po_blk (po_then (po_bp)))))))) (rfl) ?_ -- region 31 solve.go:184
      refine pi_ro rfl (fun w hS => ro_move rfl) ?_
      refine pi_ro rfl (fun w hS => ro_nilCheck rfl) ?_
      refine pi_ro rfl (fun w hS => ro_fieldAddr (k := 1) rfl fo_100_1) ?_
      refine pi_ro rfl (fun w hS => ro_loadB rfl sc_3 (Blk.of_heap hG hS) (k1)) ?_
      refine pi_ro rfl (fun w hS => ro_cmp (r := false) rfl rfl (by simp; omega)) ?_
      refine pi_ro rfl (fun w hS => ro_move rfl) ?_
      refine pi_gyes rfl rfl (fun w hS => ro_move rfl) ?_
      refine pi_gyes rfl rfl (fun w hS => ro_nilCheck rfl) ?_
      refine pi_gyes rfl rfl (fun w hS => ro_fieldAddr (k := 1) rfl fo_100_1) ?_
      refine pi_gyes rfl rfl (fun w hS => ro_loadB rfl sc_3 (Blk.of_heap hG hS) (k1)) ?_
      refine pi_gyes rfl rfl (fun w hS => ro_move rfl) ?_
      refine pi_gyes rfl rfl (fun w hS => ro_nilCheck rfl) ?_
      refine pi_gyes rfl rfl (fun w hS => ro_fieldAddr (k := 3) rfl fo_100_3) ?_
      refine pi_gyes rfl rfl (fun w hS => ro_loadB rfl sc_3 (Blk.of_heap hG hS) (k3)) ?_
      refine pi_gyes rfl rfl (fun w hS => ro_cmp (r := false) rfl rfl (by simp; omega)) ?_
      refine pi_ro rfl (fun w hS => ro_pick rfl rfl rfl) ?_
      refine gen2 (A := fun w3 => Fram none' w w3) (B := fun w3 => Blk w3.heap g0 l0 100) (C := fun w3 => WP _ _ _ _ _ _ w3) (F2.trans (Fram.drew _ _ _)) hG ?_
      clear hB hG F2
      intro w2 F2 hG
      have hB := hBlk F2
      refine pi_nil (x_then (hK37 _ _ ?_))
      clear hK37 K37
      refine wc_condF rfl ?_
      refine c_skip (x_then (hK36 _ _ ?_))
      clear hK36 K36
      refine c_seq (fun K38 hK38 => ?_)
      refine c_seq (fun K39 hK39 => ?_)
      refine c_reg ?_ -- region 33 solve.go:187
      refine wl (ro_move rfl) ?_
      refine wl (ro_nilCheck rfl) ?_
      refine wl (ro_fieldAddr (k := 3) rfl fo_100_3) ?_
      refine wl (ro_loadB rfl sc_3 (hG) (k3)) ?_
      refine wl (ro_move rfl) ?_
      refine wl (ro_cmp (r := false) rfl rfl (by simp; omega)) ?_
      refine wl (ro_move rfl) ?_
      refine wlg_yes rfl (ro_move rfl) ?_
      refine wlg_yes rfl (ro_nilCheck rfl) ?_
      refine wlg_yes rfl (ro_fieldAddr (k := 3) rfl fo_100_3) ?_
      refine wlg_yes rfl (ro_loadB rfl sc_3 (hG) (k3)) ?_
      refine wlg_yes rfl (ro_move rfl) ?_
      refine wlg_yes rfl (ro_cmp (r := false) rfl rfl (by simp; omega)) ?_
      refine wl (ro_pick rfl rfl rfl) ?_
      refine wl_nil (x_then (hK39 _ _ ?_))
      clear hK39 K39
      refine wc_condF rfl ?_
      refine c_skip (x_then (hK38 _ _ ?_))
      clear hK38 K38
      refine c_seq (fun K40 hK40 => ?_)
      refine c_seq (fun K41 hK41 => ?_)
      refine c_pi [(0, false), (1, false), (2, false), (3, false), (4, false), (5, false), (6, false), (7, false), (8, false), (9, false), (10, false), (11, false), (12, false), (13, false), (14, false), (15, false), (16, false), (17, false)] (SameH w2.heap) mixed (by kernel_rfl) rfl (by kernel_rfl) (po_then (po_then (po_blk (po_then (po_then (po_blk (po_then (po_bp)))))))) (rfl) ?_ -- region 35 solve.go:190
      refine pi_ro rfl (fun w hS => ro_move rfl) ?_
      refine pi_ro rfl (fun w hS => ro_nilCheck rfl) ?_
      refine pi_ro rfl (fun w hS => ro_fieldAddr (k := 4) rfl fo_100_4) ?_
      refine pi_ro rfl (fun w hS => ro_loadB rfl sc_3 (Blk.of_heap hG hS) (k4)) ?_
      refine pi_ro rfl (fun w hS => ro_move rfl) ?_
      refine pi_ro rfl (fun w hS => ro_cmp (r := false) rfl rfl (by simp; omega)) ?_
      refine pi_ro rfl (fun w hS => ro_move rfl) ?_
      refine pi_gyes rfl rfl (fun w hS => ro_move rfl) ?_
      refine pi_gyes rfl rfl (fun w hS => ro_nilCheck rfl) ?_
      refine pi_gyes rfl rfl (fun w hS => ro_fieldAddr (k := 4) rfl fo_100_4) ?_
      refine pi_gyes rfl rfl (fun w hS => ro_loadB rfl sc_3 (Blk.of_heap hG hS) (k4)) ?_
      refine pi_gyes rfl rfl (fun w hS => ro_move rfl) ?_
      refine pi_gyes rfl rfl (fun w hS => ro_nilCheck rfl) ?_
      refine pi_gyes rfl rfl (fun w hS => ro_fieldAddr (k := 11) rfl fo_82_11) ?_
      refine pi_gyes rfl rfl (fun w hS => ro_loadB rfl sc_66 (Blk.of_heap (by assumption) hS) rfl) ?_
      refine pi_gyes rfl rfl (fun w hS => ro_lenL rfl se_66) ?_
      refine pi_gyes rfl rfl (fun w hS => ro_cmp (r := false) rfl rfl (by simp; omega)) ?_
      refine pi_ro rfl (fun w hS => ro_pick rfl rfl rfl) ?_
      refine gen2 (A := fun w3 => Fram none' w w3) (B := fun w3 => Blk w3.heap g0 l0 100) (C := fun w3 => WP _ _ _ _ _ _ w3) (F2.trans (Fram.drew _ _ _)) hG ?_
      clear hB hG F2
      intro w2 F2 hG
      refine pi_nil (x_then (hK41 _ _ ?_))
      clear hK41 K41
      refine wc_condF rfl ?_
      refine c_skip (x_then (hK40 _ _ ?_))
      clear hK40 K40
      refine c_pi [(0, false), (1, false), (2, false), (3, false), (4, false), (5, false), (6, false), (7, false), (8, false), (9, false)] (SameH w2.heap) mixed (by kernel_rfl) rfl (by kernel_rfl) (po_blk (po_then (po_then (po_blk (po_then (po_bp)))))) (rfl) ?_ -- region 37 solve.go:193
      refine pi_ro rfl (fun w hS => ro_move rfl) ?_
      refine pi_ro rfl (fun w hS => ro_nilCheck rfl) ?_
      refine pi_ro rfl (fun w hS => ro_fieldAddr (k := 3) rfl fo_100_3) ?_
      refine pi_ro rfl (fun w hS => ro_loadB rfl sc_3 (Blk.of_heap hG hS) (k3)) ?_
      refine pi_ro rfl (fun w hS => ro_move rfl) ?_
      refine pi_ro rfl (fun w hS => ro_nilCheck rfl) ?_
      refine pi_ro rfl (fun w hS => ro_fieldAddr (k := 4) rfl fo_100_4) ?_
      refine pi_ro rfl (fun w hS => ro_loadB rfl sc_3 (Blk.of_heap hG hS) (k4)) ?_
      refine pi_ro rfl (fun w hS => ro_assign rfl) ?_
      refine pi_ro rfl (fun w hS => ro_assign rfl) ?_
      refine gen1 (A := fun w3 => Fram none' w w3) (C := fun w3 => WP _ _ _ _ _ _ w3) (F2.trans (Fram.drew _ _ _)) ?_
      clear hG F2
      intro w2 F2
      refine pi_nil (x_blk (x_then (hK31 _ _ ?_)))
      clear hK31 K31
      refine c_reg ?_ -- region 38 solve.go:179
      refine wl (ro_arith rfl rfl rfl (Go.IntWalk.i64_in _ (by omega))) ?_
      refine wl (ro_move rfl) ?_
      refine wl_nil (x_then ?_)
      refine ⟨s.chs.length - (i + 1), by omega, i + 1, q.fr, (q.pr : Int), rfl, by omega, F2, ?_, kp _ ⟨rfl, rfl, rfl, rfl, rfl, rfl, rfl, trivial⟩⟩
      intro j z hj hz
      have := C.mo i j q z (by omega) hq hz
      exact ⟨this.1, by omega⟩
    · try simp only [decide_eq_true_eq, decide_eq_false_iff_not, Bool.not_eq_true', Bool.not_eq_false', Bool.not_eq_eq_eq_not, Bool.not_true, Bool.not_false, beq_iff_eq, bne_iff_ne, ne_eq, beq_eq_false_iff_ne, bne_eq_false_iff_eq, gt_iff_lt, ge_iff_le, Int.not_lt, Int.not_le] at hc169
      refine c_exit (x_thenX (x_thenX (x_blkX (x_then (hK27 _ _ ?_)))))
      clear hK30 K30 hK27 K27
      refine forget [] trivial (fun e => ?_)
      refine c_seq (fun K42 hK42 => ?_)
      refine c_reg ?_ -- region 39 solve.go:195
      refine wl (ro_assign rfl) ?_
      refine wl_nil (x_then (hK42 _ _ ?_))
      clear hK42 K42
      refine c_ret ?_
      refine bp_ret Tryz.results50 rfl ?_
      exact ⟨rfl, F2⟩

end Go.Proofs.Qxb6500569aGreat
