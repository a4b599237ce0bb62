import Derived.Test.Qxb6500569aGreatSe
/- The model's machine: Ask. -/
namespace Go.Proofs.Qxb6500569aGreat
set_option linter.unusedVariables false
set_option linter.unusedSimpArgs false

/-- The search of a query's code. -/
def askR (cls : List Cl2) (code : List UInt8) (fuel : Nat) : SSt :=
  (dfsF cls fuel (4 * (fuel + 1) + (kidsS (nsOf code 0) 0 0 0 0).length + 1) (nsOf code 0) (kidsS (nsOf code 0) 0 0 0 0) [] 1 0 ⟨0, 0, 0, []⟩).2

def finE (e : Nat) : Nat := if e = 0 then 9 else e

def askSt (cls : List Cl2) (code : List UInt8) (fuel : Nat) : SSt :=
  ⟨(askR cls code fuel).inf, (askR cls code fuel).tried, finE (askR cls code fuel).fin, (askR cls code fuel).list ++ [(finE (askR cls code fuel).fin, (askR cls code fuel).inf, (askR cls code fuel).tried, [])]⟩

theorem finE_ne (e : Nat) : finE e ≠ 0 := by unfold finE; split <;> omega

/-- The machine gives the search's answers, then its end. -/
theorem ask_str (cls : List Cl2) (code : List UInt8) (fuel : Nat) : ∃ L F, (askSt cls code fuel).list = L ++ [(F.1, F.2.1, F.2.2, [])] ∧ F.1 ≠ 0 ∧
    Str cls fuel L F (Yield cls fuel false ⟨nsOf code 0, (kidsS (nsOf code 0) 0 0 0 0).map gf, [], [], 0, 0⟩) := by
  have hdec : Dec (kidsS (nsOf code 0) 0 0 0 0) 1 ([] : List Ch).length := by
    refine ⟨?_, ?_⟩
    · intro x hx
      have := kidsS_mem hx
      rw [show x.2.1 = 0 by rw [this], show x.2.2 = 0 by rw [this]]
      simp
    · rw [List.pairwise_iff_forall_sublist]
      intro a b hab
      have ha := kidsS_mem (hab.subset (by simp : a ∈ [a, b]))
      have hb := kidsS_mem (hab.subset (by simp : b ∈ [a, b]))
      rw [ha, hb]; simp
  obtain ⟨L, e1, e2, e3, e4⟩ := dfs_str (cls := cls) (fuel := fuel) (4 * (fuel + 1) + (kidsS (nsOf code 0) 0 0 0 0).length + 1) (nsOf code 0) (kidsS (nsOf code 0) 0 0 0 0) [] 1 [] ⟨0, 0, 0, []⟩ (by simp) (by simp) rfl hdec
  refine ⟨L, (finE (askR cls code fuel).fin, (askR cls code fuel).inf, (askR cls code fuel).tried), ?_, finE_ne _, ?_⟩
  · simp only [askSt]
    unfold askR
    simp only [List.length_nil] at e1
    rw [e1]
    rfl
  · unfold finE
    split
    · rename_i h0
      obtain ⟨h1, n, h2, h3⟩ := e4 h0
      have := h3 [] (9, (askR cls code fuel).inf, (askR cls code fuel).tried) ⟨9, ⟨[], [], [], [], (askR cls code fuel).inf, (askR cls code fuel).tried⟩, ⟨1, ?_⟩, rfl, rfl, .inl ⟨by decide, rfl⟩⟩
      · rw [List.append_nil] at this
        exact this
      · simp only [mrun, back, cutK, List.drop_nil]
        rfl
    · rename_i h0
      exact e3 h0

def mAsk (s : MSt) (text : List UInt8) (fuel : Int) : Nat × MSt :=
  if 40 < text.length then (1, s) else if s.opn then (2, s) else if fuel < 0 ∨ 24 < fuel then (4, s) else match compS text true with
    | none => (5, s)
    | some code => (0, { s with opn := true, q := text, fuel := fuel.toNat, given := 0, st := askSt s.cls code fuel.toNat })

theorem lays_pos {c : UInt8} {rest : List UInt8} {b : Nat} {ns : List Nd} (h : Lays (c :: rest) b ns) (hv : isV c = false) : 0 < ns.length := by
  obtain ⟨k, env, hl⟩ := h
  obtain ⟨d, code1, ks1, r1, env1, ns1, ks2, ns2, hF, hc, hD', h1, h2, h3, rfl⟩ := hl.str hv
  simp

theorem compS_qhead {text code : List UInt8} (h : compS text true = some code) : ∃ rest, code = 63 :: rest := by
  simp only [compS, if_true] at h
  cases hb : bodyS (PG text []) with
  | none => rw [hb] at h; cases h
  | some r => rw [hb] at h; cases h; exact ⟨_, rfl⟩

theorem hok_nil : HOK [] := ⟨⟨by simp, by simp⟩, (by intro nd h; cases h), by simp⟩

theorem Ask21 {w : World} {sb : Nat} {s : MSt} {F : Nat → Prop} (M : MAll w.heap sb s F) (text : List UInt8) (fuel : Int) :
    Ret Tryz.prog 21 [ptr sb, S text, .int .i64 fuel] w (fun r w' => r = i64c (mAsk s text fuel).1 ∧ MPostF F sb (mAsk s text fuel).2 w w') := by
  have M0 := M
  obtain ⟨mpb, VT, VC, VL, h1, h2, h3, h4⟩ := M
  have hB := h3.blk
  by_cases hl : 40 < text.length
  · have e1 : mAsk s text fuel = (1, s) := by unfold mAsk; rw [if_pos hl]
    rw [e1]
    refine ret_of Tryz.func21 rfl Tryz.ntmps21 rfl ?_
    refine c_seq (fun K1 hK1 => ?_)
    refine c_reg ?_ -- region 0 solvem.go:66
    refine wl (ro_assign rfl) ?_
    refine wl_nil (x_then (hK1 _ _ ?_))
    clear hK1 K1
    refine c_seq (fun K2 hK2 => ?_)
    refine c_seq (fun K3 hK3 => ?_)
    refine c_reg ?_ -- region 1 solvem.go:67
    refine wl (ro_move rfl) ?_
    refine wl (ro_lenS rfl st_9) ?_
    refine wl (ro_cmp (r := true) rfl rfl (by simp; omega)) ?_
    refine wl_nil (x_then (hK3 _ _ ?_))
    clear hK3 K3
    refine wc_condT rfl ?_
    refine c_seq (fun K4 hK4 => ?_)
    refine c_reg ?_ -- region 2 solvem.go:68
    refine wl (ro_assign rfl) ?_
    refine wl_nil (x_then (hK4 _ _ ?_))
    clear hK4 K4
    refine c_ret (x_thenR ?_)
    refine bp_ret Tryz.results21 rfl ?_
    exact ⟨rfl, F, M0, fun b h => .inl h, Fram.refl _ _⟩
  cases ho : s.opn with
  | true =>
    have e1 : mAsk s text fuel = (2, s) := by unfold mAsk; rw [if_neg hl, ho]; rfl
    rw [e1]
    simp only [ho] at hB
    refine ret_of Tryz.func21 rfl Tryz.ntmps21 rfl ?_
    refine c_seq (fun K1 hK1 => ?_)
    refine c_reg ?_ -- region 0 solvem.go:66
    refine wl (ro_assign rfl) ?_
    refine wl_nil (x_then (hK1 _ _ ?_))
    clear hK1 K1
    refine c_seq (fun K2 hK2 => ?_)
    refine c_seq (fun K3 hK3 => ?_)
    refine c_reg ?_ -- region 1 solvem.go:67
    refine wl (ro_move rfl) ?_
    refine wl (ro_lenS rfl st_9) ?_
    refine wl (ro_cmp (r := false) rfl rfl (by simp; omega)) ?_
    refine wl_nil (x_then (hK3 _ _ ?_))
    clear hK3 K3
    refine wc_condF rfl ?_
    refine c_skip (x_then (hK2 _ _ ?_))
    clear hK2 K2
    refine c_seq (fun K4 hK4 => ?_)
    refine c_seq (fun K5 hK5 => ?_)
    refine c_reg ?_ -- region 3 solvem.go:70
    refine wl (ro_move rfl) ?_
    refine wl (ro_nilCheck rfl) ?_
    refine wl (ro_fieldAddr (k := 1) rfl fo_49_1) ?_
    refine wl (ro_loadB rfl sc_4 (by assumption) rfl) ?_
    refine wl_nil (x_then (hK5 _ _ ?_))
    clear hK5 K5
    refine wc_condT rfl ?_
    refine c_seq (fun K6 hK6 => ?_)
    refine c_reg ?_ -- region 4 solvem.go:71
    refine wl (ro_assign rfl) ?_
    refine wl_nil (x_then (hK6 _ _ ?_))
    clear hK6 K6
    refine c_ret (x_thenR ?_)
    refine bp_ret Tryz.results21 rfl ?_
    exact ⟨rfl, F, M0, fun b h => .inl h, Fram.refl _ _⟩
  | false =>
  simp only [ho] at hB
  by_cases hf0 : fuel < 0
  · have e1 : mAsk s text fuel = (4, s) := by unfold mAsk; rw [if_neg hl, ho, if_neg (by decide), if_pos (.inl hf0)]
    rw [e1]
    refine ret_of Tryz.func21 rfl Tryz.ntmps21 rfl ?_
    refine c_seq (fun K1 hK1 => ?_)
    refine c_reg ?_ -- region 0 solvem.go:66
    refine wl (ro_assign rfl) ?_
    refine wl_nil (x_then (hK1 _ _ ?_))
    clear hK1 K1
    refine c_seq (fun K2 hK2 => ?_)
    refine c_seq (fun K3 hK3 => ?_)
    refine c_reg ?_ -- region 1 solvem.go:67
    refine wl (ro_move rfl) ?_
    refine wl (ro_lenS rfl st_9) ?_
    refine wl (ro_cmp (r := false) rfl rfl (by simp; omega)) ?_
    refine wl_nil (x_then (hK3 _ _ ?_))
    clear hK3 K3
    refine wc_condF rfl ?_
    refine c_skip (x_then (hK2 _ _ ?_))
    clear hK2 K2
    refine c_seq (fun K4 hK4 => ?_)
    refine c_seq (fun K5 hK5 => ?_)
    refine c_reg ?_ -- region 3 solvem.go:70
    refine wl (ro_move rfl) ?_
    refine wl (ro_nilCheck rfl) ?_
    refine wl (ro_fieldAddr (k := 1) rfl fo_49_1) ?_
    refine wl (ro_loadB rfl sc_4 (by assumption) rfl) ?_
    refine wl_nil (x_then (hK5 _ _ ?_))
    clear hK5 K5
    refine wc_condF rfl ?_
    refine c_skip (x_then (hK4 _ _ ?_))
    clear hK4 K4
    refine c_seq (fun K6 hK6 => ?_)
    refine c_seq (fun K7 hK7 => ?_)
    refine c_reg ?_ -- region 5 solvem.go:73
    refine wl (ro_move rfl) ?_
    refine wl (ro_cmp (r := true) rfl rfl (by simp; omega)) ?_
    refine wl (ro_move rfl) ?_
    refine wlg_no rfl ?_
    refine wlg_no rfl ?_
    refine wl (ro_pick rfl rfl rfl) ?_
    refine wl_nil (x_then (hK7 _ _ ?_))
    clear hK7 K7
    refine wc_condT rfl ?_
    refine c_seq (fun K8 hK8 => ?_)
    refine c_reg ?_ -- region 6 solvem.go:74
    refine wl (ro_assign rfl) ?_
    refine wl_nil (x_then (hK8 _ _ ?_))
    clear hK8 K8
    refine c_ret (x_thenR ?_)
    refine bp_ret Tryz.results21 rfl ?_
    exact ⟨rfl, F, M0, fun b h => .inl h, Fram.refl _ _⟩
  by_cases hf24 : 24 < fuel
  · have e1 : mAsk s text fuel = (4, s) := by unfold mAsk; rw [if_neg hl, ho, if_neg (by decide), if_pos (.inr hf24)]
    rw [e1]
    refine ret_of Tryz.func21 rfl Tryz.ntmps21 rfl ?_
    refine c_seq (fun K1 hK1 => ?_)
    refine c_reg ?_ -- region 0 solvem.go:66
    refine wl (ro_assign rfl) ?_
    refine wl_nil (x_then (hK1 _ _ ?_))
    clear hK1 K1
    refine c_seq (fun K2 hK2 => ?_)
    refine c_seq (fun K3 hK3 => ?_)
    refine c_reg ?_ -- region 1 solvem.go:67
    refine wl (ro_move rfl) ?_
    refine wl (ro_lenS rfl st_9) ?_
    refine wl (ro_cmp (r := false) rfl rfl (by simp; omega)) ?_
    refine wl_nil (x_then (hK3 _ _ ?_))
    clear hK3 K3
    refine wc_condF rfl ?_
    refine c_skip (x_then (hK2 _ _ ?_))
    clear hK2 K2
    refine c_seq (fun K4 hK4 => ?_)
    refine c_seq (fun K5 hK5 => ?_)
    refine c_reg ?_ -- region 3 solvem.go:70
    refine wl (ro_move rfl) ?_
    refine wl (ro_nilCheck rfl) ?_
    refine wl (ro_fieldAddr (k := 1) rfl fo_49_1) ?_
    refine wl (ro_loadB rfl sc_4 (by assumption) rfl) ?_
    refine wl_nil (x_then (hK5 _ _ ?_))
    clear hK5 K5
    refine wc_condF rfl ?_
    refine c_skip (x_then (hK4 _ _ ?_))
    clear hK4 K4
    refine c_seq (fun K6 hK6 => ?_)
    refine c_seq (fun K7 hK7 => ?_)
    refine c_reg ?_ -- region 5 solvem.go:73
    refine wl (ro_move rfl) ?_
    refine wl (ro_cmp (r := false) rfl rfl (by simp; omega)) ?_
    refine wl (ro_move rfl) ?_
    refine wlg_yes rfl (ro_move rfl) ?_
    refine wlg_yes rfl (ro_cmp (r := true) rfl rfl (by simp; omega)) ?_
    refine wl (ro_pick rfl rfl rfl) ?_
    refine wl_nil (x_then (hK7 _ _ ?_))
    clear hK7 K7
    refine wc_condT rfl ?_
    refine c_seq (fun K8 hK8 => ?_)
    refine c_reg ?_ -- region 6 solvem.go:74
    refine wl (ro_assign rfl) ?_
    refine wl_nil (x_then (hK8 _ _ ?_))
    clear hK8 K8
    refine c_ret (x_thenR ?_)
    refine bp_ret Tryz.results21 rfl ?_
    exact ⟨rfl, F, M0, fun b h => .inl h, Fram.refl _ _⟩
  obtain ⟨k, rfl⟩ : ∃ k : Nat, fuel = (k : Int) := ⟨fuel.toNat, by omega⟩
  cases hc : compS text true with
  | none =>
    have e1 : mAsk s text k = (5, s) := by unfold mAsk; rw [if_neg hl, ho, if_neg (by decide), if_neg (by omega), hc]
    rw [e1]
    have hQ : Ret Tryz.prog 33 [ptr mpb, S text] w (fun r w' => r = .tuple #[S [], i64c 5] ∧ Fram none' w w') := (Query33 (w := w) (mb := mpb) (text := text) (by omega)).mono (by rintro _ w' ⟨rfl, F⟩; exact ⟨by rw [hc]; rfl, F⟩)
    refine ret_of Tryz.func21 rfl Tryz.ntmps21 rfl ?_
    refine c_seq (fun K1 hK1 => ?_)
    refine c_reg ?_ -- region 0 solvem.go:66
    refine wl (ro_assign rfl) ?_
    refine wl_nil (x_then (hK1 _ _ ?_))
    clear hK1 K1
    refine c_seq (fun K2 hK2 => ?_)
    refine c_seq (fun K3 hK3 => ?_)
    refine c_reg ?_ -- region 1 solvem.go:67
    refine wl (ro_move rfl) ?_
    refine wl (ro_lenS rfl st_9) ?_
    refine wl (ro_cmp (r := false) rfl rfl (by simp; omega)) ?_
    refine wl_nil (x_then (hK3 _ _ ?_))
    clear hK3 K3
    refine wc_condF rfl ?_
    refine c_skip (x_then (hK2 _ _ ?_))
    clear hK2 K2
    refine c_seq (fun K4 hK4 => ?_)
    refine c_seq (fun K5 hK5 => ?_)
    refine c_reg ?_ -- region 3 solvem.go:70
    refine wl (ro_move rfl) ?_
    refine wl (ro_nilCheck rfl) ?_
    refine wl (ro_fieldAddr (k := 1) rfl fo_49_1) ?_
    refine wl (ro_loadB rfl sc_4 (by assumption) rfl) ?_
    refine wl_nil (x_then (hK5 _ _ ?_))
    clear hK5 K5
    refine wc_condF rfl ?_
    refine c_skip (x_then (hK4 _ _ ?_))
    clear hK4 K4
    refine c_seq (fun K6 hK6 => ?_)
    refine c_seq (fun K7 hK7 => ?_)
    refine c_reg ?_ -- region 5 solvem.go:73
    refine wl (ro_move rfl) ?_
    refine wl (ro_cmp (r := false) rfl rfl (by simp)) ?_
    refine wl (ro_move rfl) ?_
    refine wlg_yes rfl (ro_move rfl) ?_
    refine wlg_yes rfl (ro_cmp (r := false) rfl rfl (by simp; omega)) ?_
    refine wl (ro_pick rfl rfl rfl) ?_
    refine wl_nil (x_then (hK7 _ _ ?_))
    clear hK7 K7
    refine wc_condF rfl ?_
    refine c_skip (x_then (hK6 _ _ ?_))
    clear hK6 K6
    refine forget [(0, _), (1, _), (2, _)] ⟨rfl, rfl, rfl, trivial⟩ (fun e => ?_)
    refine c_seq (fun K8 hK8 => ?_)
    refine c_reg ?_ -- region 7 solvem.go:76
    refine wl (ro_move rfl) ?_
    refine wl (ro_nilCheck rfl) ?_
    refine wl (ro_fieldAddr (k := 0) rfl fo_49_0) ?_
    refine wl (ro_loadB rfl sc_44 (by assumption) rfl) ?_
    refine wl (ro_move rfl) ?_
    refine wl_call rfl en_33 (hQ) ?_
    rintro _ w1 ⟨rfl, F1⟩
    refine wl (ro_move rfl) ?_
    refine wl (ro_extract rfl rfl) ?_
    refine wl (ro_extract rfl rfl) ?_
    refine wl (ro_assign rfl) ?_
    refine wl (ro_assign rfl) ?_
    refine wl_nil (x_then (hK8 _ _ ?_))
    clear hK8 K8
    refine c_seq (fun K9 hK9 => ?_)
    refine c_seq (fun K10 hK10 => ?_)
    refine c_reg ?_ -- region 8 solvem.go:77
    refine wl (ro_move rfl) ?_
    refine wl (ro_cmp rfl rfl rfl) ?_
    refine wl_nil (x_then (hK10 _ _ ?_))
    clear hK10 K10
    refine wc_condT rfl ?_
    refine c_seq (fun K11 hK11 => ?_)
    refine c_reg ?_ -- region 9 solvem.go:78
    refine wl (ro_move rfl) ?_
    refine wl (ro_assign rfl) ?_
    refine wl_nil (x_then (hK11 _ _ ?_))
    clear hK11 K11
    refine c_ret (x_thenR ?_)
    refine bp_ret Tryz.results21 rfl ?_
    exact ⟨rfl, F, M0.fram F1 (fun _ _ h => h), fun b h => .inl h, F1.mono (fun _ _ h => h.elim)⟩
  | some code =>
    have e1 : mAsk s text k = (0, { s with opn := true, q := text, fuel := k, given := 0, st := askSt s.cls code k }) := by unfold mAsk; rw [if_neg hl, ho, if_neg (by decide), if_neg (by omega), hc]; rfl
    rw [e1]
    have hQ : Ret Tryz.prog 33 [ptr mpb, S text] w (fun r w' => r = .tuple #[S code, i64c 0] ∧ Fram none' w w') := (Query33 (w := w) (mb := mpb) (text := text) (by omega)).mono (by rintro _ w' ⟨rfl, F⟩; exact ⟨by rw [hc]; rfl, F⟩)
    obtain ⟨hgood, hcl⟩ := compS_ok hc
    have hlay := good_nsOf hgood 0
    have hxx : askSt s.cls code k = askSt s.cls code k := rfl
    unfold askSt askR at hxx
    obtain ⟨ns, hns⟩ : ∃ ns, ns = nsOf code 0 := ⟨_, rfl⟩
    rw [← hns] at hlay
    obtain ⟨rst, hrst⟩ := compS_qhead hc
    have hnp : 0 < ns.length := lays_pos (hrst ▸ hlay) rfl
    have hn48 : ns.length ≤ 48 := by obtain ⟨k, env, h⟩ := hlay; have := (h.facts (envLt0 _)).2.2.2.2.2; simp at this; omega
    obtain ⟨hok, h4'⟩ := lays_hok (hp := []) hok_nil hlay (by simp; omega)
    rw [List.nil_append] at hok h4'
    have hkl := kidsT_len ns 0 0 4 0 0
    have hks : kidsT ns 0 0 4 0 0 = kidsS ns 0 0 0 0 := rfl
    rw [hks] at hkl
    obtain ⟨x, hx⟩ : ∃ x, x = dfsF s.cls k (4 * (k + 1) + (kidsS ns 0 0 0 0).length + 1) ns (kidsS ns 0 0 0 0) [] 1 0 ⟨0, 0, 0, []⟩ := ⟨_, rfl⟩
    have hst : askSt s.cls code k = ⟨x.2.inf, x.2.tried, finE x.2.fin, x.2.list ++ [(finE x.2.fin, x.2.inf, x.2.tried, [])]⟩ := by
      unfold askSt askR; rw [← hns, ← hx]
    rw [hst]
    have hbx : Bnd k 8 1 ⟨0, 0, 0, []⟩ x.2 := by rw [hx]; exact dfs_bnd (by omega) h2.n8 _ _ _ _ _ _ _ (by simp) rfl
    have hxl : x.2.list.length ≤ 30 := by have := hbx.ps; simp only [psi, List.length_nil] at this; omega
    clear hxx hst
    refine ret_of Tryz.func21 rfl Tryz.ntmps21 rfl ?_
    refine c_seq (fun K1 hK1 => ?_)
    refine c_reg ?_ -- region 0 solvem.go:66
    refine wl (ro_assign rfl) ?_
    refine wl_nil (x_then (hK1 _ _ ?_))
    clear hK1 K1
    refine c_seq (fun K2 hK2 => ?_)
    refine c_seq (fun K3 hK3 => ?_)
    refine c_reg ?_ -- region 1 solvem.go:67
    refine wl (ro_move rfl) ?_
    refine wl (ro_lenS rfl st_9) ?_
    refine wl (ro_cmp (r := false) rfl rfl (by simp; omega)) ?_
    refine wl_nil (x_then (hK3 _ _ ?_))
    clear hK3 K3
    refine wc_condF rfl ?_
    refine c_skip (x_then (hK2 _ _ ?_))
    clear hK2 K2
    refine c_seq (fun K4 hK4 => ?_)
    refine c_seq (fun K5 hK5 => ?_)
    refine c_reg ?_ -- region 3 solvem.go:70
    refine wl (ro_move rfl) ?_
    refine wl (ro_nilCheck rfl) ?_
    refine wl (ro_fieldAddr (k := 1) rfl fo_49_1) ?_
    refine wl (ro_loadB rfl sc_4 (by assumption) rfl) ?_
    refine wl_nil (x_then (hK5 _ _ ?_))
    clear hK5 K5
    refine wc_condF rfl ?_
    refine c_skip (x_then (hK4 _ _ ?_))
    clear hK4 K4
    refine c_seq (fun K6 hK6 => ?_)
    refine c_seq (fun K7 hK7 => ?_)
    refine c_reg ?_ -- region 5 solvem.go:73
    refine wl (ro_move rfl) ?_
    refine wl (ro_cmp (r := false) rfl rfl (by simp)) ?_
    refine wl (ro_move rfl) ?_
    refine wlg_yes rfl (ro_move rfl) ?_
    refine wlg_yes rfl (ro_cmp (r := false) rfl rfl (by simp; omega)) ?_
    refine wl (ro_pick rfl rfl rfl) ?_
    refine wl_nil (x_then (hK7 _ _ ?_))
    clear hK7 K7
    refine wc_condF rfl ?_
    refine c_skip (x_then (hK6 _ _ ?_))
    clear hK6 K6
    refine forget [(0, _), (1, _), (2, _)] ⟨rfl, rfl, rfl, trivial⟩ (fun e => ?_)
    refine c_seq (fun K8 hK8 => ?_)
    refine c_reg ?_ -- region 7 solvem.go:76
    refine wl (ro_move rfl) ?_
    refine wl (ro_nilCheck rfl) ?_
    refine wl (ro_fieldAddr (k := 0) rfl fo_49_0) ?_
    refine wl (ro_loadB rfl sc_44 (by assumption) rfl) ?_
    refine wl (ro_move rfl) ?_
    refine wl_call rfl en_33 (hQ) ?_
    rintro _ w1 ⟨rfl, F1⟩
    refine wl (ro_move rfl) ?_
    refine wl (ro_extract rfl rfl) ?_
    refine wl (ro_extract rfl rfl) ?_
    refine wl (ro_assign rfl) ?_
    refine wl (ro_assign rfl) ?_
    refine wl_nil (x_then (hK8 _ _ ?_))
    clear hK8 K8
    refine c_seq (fun K9 hK9 => ?_)
    refine c_seq (fun K10 hK10 => ?_)
    refine c_reg ?_ -- region 8 solvem.go:77
    refine wl (ro_move rfl) ?_
    refine wl (ro_cmp rfl rfl rfl) ?_
    refine wl_nil (x_then (hK10 _ _ ?_))
    clear hK10 K10
    refine wc_condF rfl ?_
    refine c_skip (x_then (hK9 _ _ ?_))
    clear hK9 K9
    refine forget [(0, _), (1, _), (2, _), (7, _)] ⟨rfl, rfl, rfl, rfl, trivial⟩ (fun e => ?_)
    refine c_seq (fun K11 hK11 => ?_)
    refine c_reg ?_ -- region 10 solvem.go:80
    refine wl_call rfl en_34 (New34) ?_
    rintro _ w2 ⟨rfl, MH2, F2⟩
    obtain ⟨cb, hcb⟩ : ∃ cb, cb = w1.heap.size := ⟨_, rfl⟩
    rw [← hcb] at MH2 ⊢
    have hwc : w.heap.size ≤ cb := by have := F1.size; omega
    have hLd : Ret Tryz.prog 35 [ptr cb, S code] w2 (fun r w' => r = .tuple #[i64c 0, i64c 0] ∧ ∃ V', MH w'.heap cb V' ns ∧ (∀ b, V'.ownBlock = some b → w2.heap.size ≤ b) ∧ Fram (MFoot cb (.slice none 0 0)) w2 w') := (Load35 MH2 hlay (by omega) (by simp)).mono (by
      intro r w' h
      unfold MLoadPost at h
      rw [if_neg (by simp; omega)] at h
      obtain ⟨hr, V', a1, a2, a3⟩ := h
      refine ⟨hr, V', a1, fun b hb => ?_, a3⟩
      rcases a2 b hb with h | h
      · cases h
      · exact h)
    have F02 := F1.trans F2
    refine wl (ro_assign rfl) ?_
    refine wl_nil (x_then (hK11 _ _ ?_))
    clear hK11 K11
    refine forget [(0, _), (1, _), (2, _), (7, _), (9, _)] ⟨rfl, rfl, rfl, rfl, rfl, trivial⟩ (fun e => ?_)
    refine c_seq (fun K12 hK12 => ?_)
    refine c_reg ?_ -- region 11 solvem.go:81
    refine wl (ro_move rfl) ?_
    refine wl (ro_move rfl) ?_
    refine wl_call rfl en_35 (hLd) ?_
    rintro _ w3 ⟨rfl, V3, MH3, hV3, F3⟩
    have F03 : Fram none' w w3 := F02.trans' F3 (fun k hk hx => by
      rcases hx with hx | hx
      · omega
      · cases hx)
    have hcs := MH2.blk.lt
    have hmf : ∀ b, MFoot cb V3 b → cb ≤ b := by
      rintro b (h | h)
      · omega
      · have := hV3 b h; omega
    have hB3 := hB.fram F03 (fun h => h)
    have hP3 := h1.fram F03 (fun _ _ h => h)
    clear F02 hLd F3 MH2 hQ
    have F33 := Fram.refl (fun b => b = sb) w3
    refine wl (ro_move rfl) ?_
    refine wl (ro_extract rfl rfl) ?_
    refine wl (ro_extract rfl rfl) ?_
    refine wl (ro_assign rfl) ?_
    refine wl (ro_assign rfl) ?_
    refine wl_nil (x_then (hK12 _ _ ?_))
    clear hK12 K12
    refine c_seq (fun K13 hK13 => ?_)
    refine c_seq (fun K14 hK14 => ?_)
    refine c_reg ?_ -- region 12 solvem.go:82
    refine wl (ro_move rfl) ?_
    refine wl (ro_cmp rfl rfl rfl) ?_
    refine wl_nil (x_then (hK14 _ _ ?_))
    clear hK14 K14
    refine wc_condF rfl ?_
    refine c_skip (x_then (hK13 _ _ ?_))
    clear hK13 K13
    refine forget [(0, _), (1, _), (2, _), (9, _), (10, _)] ⟨rfl, rfl, rfl, rfl, rfl, trivial⟩ (fun e => ?_)
    refine c_seq (fun K15 hK15 => ?_)
    refine c_reg ?_ -- region 14 solvem.go:85
    refine wl (ro_move rfl) ?_
    refine wl (ro_move rfl) ?_
    refine wl (ro_move rfl) ?_
    refine wl (ro_move rfl) ?_
    refine wl (ro_move rfl) ?_
    refine wl (ro_move rfl) ?_
    refine wl (ro_nilCheck rfl) ?_
    refine wl (ro_fieldAddr (k := 1) rfl fo_49_1) ?_
    refine wls (so_storeB rfl rfl rfl sz_4 (hB3) (by simp)) ?_
    refine gset (C := fun w' => WL _ _ _ _ _ w') (l' := [ptr mpb, .bool true, S s.q, i64c s.fuel, i64c s.given, VL, i64c s.st.inf, i64c s.st.tried, i64c s.st.fin]) hB3 F33 ?_
    clear F33
    intro w4 hB4 F33
    refine wl (ro_nilCheck rfl) ?_
    refine wl (ro_fieldAddr (k := 2) rfl fo_49_2) ?_
    refine wls (so_storeB rfl rfl rfl sz_9 (hB4) (by simp)) ?_
    refine gset (C := fun w' => WL _ _ _ _ _ w') (l' := [ptr mpb, .bool true, S text, i64c s.fuel, i64c s.given, VL, i64c s.st.inf, i64c s.st.tried, i64c s.st.fin]) hB4 F33 ?_
    clear F33 hB4
    intro w4 hB4 F33
    refine wl (ro_nilCheck rfl) ?_
    refine wl (ro_fieldAddr (k := 3) rfl fo_49_3) ?_
    refine wls (so_storeB rfl rfl rfl sz_3 (hB4) (by simp)) ?_
    refine gset (C := fun w' => WL _ _ _ _ _ w') (l' := [ptr mpb, .bool true, S text, i64c k, i64c s.given, VL, i64c s.st.inf, i64c s.st.tried, i64c s.st.fin]) hB4 F33 ?_
    clear F33 hB4
    intro w4 hB4 F33
    refine wl (ro_nilCheck rfl) ?_
    refine wl (ro_fieldAddr (k := 4) rfl fo_49_4) ?_
    refine wls (so_storeB rfl rfl rfl sz_3 (hB4) (by simp)) ?_
    refine gset (C := fun w' => WL _ _ _ _ _ w') (l' := [ptr mpb, .bool true, S text, i64c k, i64c 0, VL, i64c s.st.inf, i64c s.st.tried, i64c s.st.fin]) hB4 F33 ?_
    clear F33 hB4
    intro w4 hB4 F33
    refine wl_nil (x_then (hK15 _ _ ?_))
    clear hK15 K15
    refine forget [(0, _), (9, _), (10, _)] ⟨rfl, rfl, rfl, trivial⟩ (fun e => ?_)
    refine c_seq (fun K16 hK16 => ?_)
    refine c_reg ?_ -- region 15 solvem.go:86
    refine wl (ro_move rfl) ?_
    refine wl (ro_move rfl) ?_
    refine wl (ro_move rfl) ?_
    refine wl (ro_move rfl) ?_
    refine wl (ro_nilCheck rfl) ?_
    refine wl (ro_fieldAddr (k := 5) rfl fo_49_5) ?_
    refine wls (so_storeB rfl rfl rfl sz_46 (hB4) (by simp)) ?_
    refine gset (C := fun w' => WL _ _ _ _ _ w') (l' := [ptr mpb, .bool true, S text, i64c k, i64c 0, .slice none 0 0, i64c s.st.inf, i64c s.st.tried, i64c s.st.fin]) hB4 F33 ?_
    clear F33 hB4
    intro w4 hB4 F33
    refine wl (ro_nilCheck rfl) ?_
    refine wl (ro_fieldAddr (k := 6) rfl fo_49_6) ?_
    refine wls (so_storeB rfl rfl rfl sz_3 (hB4) (by simp)) ?_
    refine gset (C := fun w' => WL _ _ _ _ _ w') (l' := [ptr mpb, .bool true, S text, i64c k, i64c 0, .slice none 0 0, i64c 0, i64c s.st.tried, i64c s.st.fin]) hB4 F33 ?_
    clear F33 hB4
    intro w4 hB4 F33
    refine wl (ro_nilCheck rfl) ?_
    refine wl (ro_fieldAddr (k := 7) rfl fo_49_7) ?_
    refine wls (so_storeB rfl rfl rfl sz_3 (hB4) (by simp)) ?_
    refine gset (C := fun w' => WL _ _ _ _ _ w') (l' := [ptr mpb, .bool true, S text, i64c k, i64c 0, .slice none 0 0, i64c 0, i64c 0, i64c s.st.fin]) hB4 F33 ?_
    clear F33 hB4
    intro w4 hB4 F33
    refine wl (ro_nilCheck rfl) ?_
    refine wl (ro_fieldAddr (k := 8) rfl fo_49_8) ?_
    refine wls (so_storeB rfl rfl rfl sz_47 (hB4) (by simp)) ?_
    refine gset (C := fun w' => WL _ _ _ _ _ w') (l' := [ptr mpb, .bool true, S text, i64c k, i64c 0, .slice none 0 0, i64c 0, i64c 0, i64c 0]) hB4 F33 ?_
    clear F33 hB4
    intro w4 hB4 F33
    have MS4 : SM w4.heap sb (.slice none 0 0) ⟨mpb, true, text, k, 0⟩ ⟨0, 0, 0, []⟩ := ⟨hB4, Own.nil _ _ _⟩
    have MH4 := MH3.framT F33 hB3.typ rfl rfl
    have hP4 := hP3.framT F33 hB3.typ rfl rfl
    have F04 : Fram (fun b => b = sb) w w4 := (F03.mono (fun _ _ h => h.elim)).trans F33
    clear MH3 hP3 hB3 F33 F03
    refine wl_nil (x_then (hK16 _ _ ?_))
    clear hK16 K16
    refine forget [(0, _), (9, _), (10, _)] ⟨rfl, rfl, rfl, trivial⟩ (fun e => ?_)
    refine c_seq (fun K17 hK17 => ?_)
    refine c_reg ?_ -- region 16 solvem.go:87
    refine wl (ro_move rfl) ?_
    refine wl (ro_move rfl) ?_
    refine wl_call rfl en_36 (kids36 MH4 hok (root := 0) (frm := 0) (lvl := 0) (left := 0) hnp (by omega) (.inl ⟨rfl, none, 0, rfl⟩) (by simp)) ?_
    rintro r9 w9 ⟨hG9, F9⟩
    rw [List.append_nil] at hG9
    have MS9 := MS4.none F9
    have MH9 := MH4.none F9
    have hP9 := hP4.fram F9 (fun _ _ h => h)
    have F09 : Fram (fun b => b = sb) w w9 := F04.trans' F9 (fun _ _ h => h.elim)
    have hga : ∀ q ∈ kidsS ns 0 0 0 0, q.1 < ns.length ∧ q.2.1 ≤ 0 ∧ q.2.2 ≤ 0 := by
      intro q hq
      have h2' := kidsS_mem hq
      rw [show q.2.1 = 0 by rw [h2'], show q.2.2 = 0 by rw [h2']]
      exact ⟨kidsS_lt hok.wf hnp hq, Nat.le_refl _, Nat.le_refl _⟩
    have hcall := dfs37 h2 (sb := sb) (VT := VT) (VC := VC) (C := ⟨mpb, true, text, k, 0⟩) (4 * (k + 1) + (kidsS ns 0 0 0 0).length + 1) w9 cb (.slice none 0 0) V3 r9 ⟨0, 0, 0, []⟩ ns (kidsS ns 0 0 0 0) [] 1 0 ⟨MS9, MH9, hok, hnp, hP9, hG9, hga, by simp, by simp, by simp, by simp, by simp only; omega, rfl, by simp [phi], by simp [psi], by simp, by omega⟩
    rw [← hx] at hcall
    refine wl (ro_assign rfl) ?_
    refine wl_nil (x_then (hK17 _ _ ?_))
    clear hK17 K17
    refine forget [(0, _), (9, _), (11, _)] ⟨rfl, rfl, rfl, trivial⟩ (fun e => ?_)
    refine c_seq (fun K18 hK18 => ?_)
    refine c_reg ?_ -- region 17 solvem.go:88
    refine wl (ro_move rfl) ?_
    refine wl (ro_move rfl) ?_
    refine wl (ro_move rfl) ?_
    refine wl_call rfl en_37 (hcall) ?_
    rintro _ w10 ⟨rfl, VL2, MS10, hn2, F10⟩
    have hP10 := hP9.framT F10 MS9.typ rfl rfl
    have hSF : ∀ q, SFoot sb (.slice none 0 0) q → q = sb := by
      rintro q (h | h)
      · exact h
      · cases h
    have F010 : Fram (fun b => b = sb) w w10 := F09.trans' F10 (fun q _ h => hSF q h)
    have hn10 : ∀ b, VL2.ownBlock = some b → w.heap.size ≤ b := by
      intro b hb
      rcases hn2 b hb with h | h
      · cases h
      · have := F09.size; omega
    have hB10 := MS10.blk
    clear MS4 MH4 hP4 F04 F9 MS9 MH9 hP9 F09 hG9 hga hcall F10 hn2
    refine wl_nil (x_then (hK18 _ _ ?_))
    clear hK18 K18
    refine c_seq (fun K19 hK19 => ?_)
    refine c_seq (fun K20 hK20 => ?_)
    refine c_reg ?_ -- region 18 solvem.go:89
    refine wl (ro_move rfl) ?_
    refine wl (ro_nilCheck rfl) ?_
    refine wl (ro_fieldAddr (k := 8) rfl fo_49_8) ?_
    refine wl (ro_loadB rfl sc_47 (hB10) rfl) ?_
    refine wl (ro_cmp (r := decide (x.2.fin = 0)) rfl rfl (congrArg some (beqc x.2.fin 0))) ?_
    refine wl_nil (x_then (hK20 _ _ ?_))
    clear hK20 K20
    refine wc_cond rfl (fun hc84 => ?_) (fun hc84 => ?_)
    · try simp only [decide_eq_true_eq, decide_eq_false_iff_not, Bool.not_eq_true', Bool.not_eq_false', Bool.not_eq_eq_eq_not, Bool.not_true, Bool.not_false, beq_iff_eq, bne_iff_ne, ne_eq, beq_eq_false_iff_ne, bne_eq_false_iff_eq, gt_iff_lt, ge_iff_le, Int.not_lt, Int.not_le] at hc84
      have hx0 : x.2.fin = 0 := by simpa using hc84
      have hfz : finE x.2.fin = 9 := by unfold finE; rw [if_pos hx0]
      refine c_reg ?_ -- region 19 solvem.go:90
      refine wl (ro_move rfl) ?_
      refine wl (ro_nilCheck rfl) ?_
      refine wl (ro_fieldAddr (k := 8) rfl fo_49_8) ?_
      refine wls (so_storeB rfl rfl rfl sz_47 (hB10) (by simp)) ?_
      obtain ⟨MSy, Fy⟩ := MS10.up x.2.inf x.2.tried 9
      refine gen3 (A := fun w' => SM w'.heap sb VL2 ⟨mpb, true, text, k, 0⟩ ⟨x.2.inf, x.2.tried, finE x.2.fin, x.2.list⟩) (B := fun w' => MP w'.heap mpb VT VC s.cls) (D := fun w' => Fram (fun b => b = sb) w w') (C := fun w' => WL _ _ _ _ _ w') (by rw [hfz]; exact MSy) (hP10.framT Fy MS10.typ rfl rfl) (F010.trans' Fy (fun q hq h => by
        rcases h with h | h
        · exact h
        · have := hn10 q h; omega)) ?_
      clear MSy Fy MS10 hB10 hP10 F010
      intro w10 MSz hP10 F010
      refine wl_nil (x_then (hK19 _ _ ?_))
      clear hK19 K19
      refine forget [(0, _)] ⟨rfl, trivial⟩ (fun e => ?_)
      refine c_seq (fun K21 hK21 => ?_)
      obtain ⟨fz, hfzz⟩ : ∃ fz, fz = finE x.2.fin := ⟨_, rfl⟩
      rw [← hfzz] at MSz
      obtain ⟨al, capl, rfl⟩ := MSz.own.form
      have hBz := MSz.blk
      refine c_piL 22 [(0, false), (1, false), (2, false), (3, false), (4, false), (5, false), (6, false), (7, false), (8, false), (9, false), (10, false), (11, false), (12, false), (13, false), (14, false), (15, false), (16, false), (17, false), (18, true), (19, true), (20, false), (21, false)] (fun w' => Blk w'.heap sb [ptr mpb, .bool true, S text, i64c k, i64c 0, .slice al x.2.list.length capl, i64c x.2.inf, i64c x.2.tried, i64c fz] 49) mixed (by kernel_rfl) rfl (by kernel_rfl) (po_then (po_bp)) (hBz) ?_ -- region 20 solvem.go:92
      refine ql_ro rfl (fun w hS => ro_move rfl) ?_
      refine ql_ro rfl (fun w hS => ro_move rfl) ?_
      refine ql_ro rfl (fun w hS => ro_nilCheck rfl) ?_
      refine ql_ro rfl (fun w hS => ro_fieldAddr (k := 5) rfl fo_49_5) ?_
      refine ql_ro rfl (fun w hS => ro_loadB rfl sc_46 (hS) rfl) ?_
      refine ql_ro rfl (fun w hS => ro_move rfl) ?_
      refine ql_ro rfl (fun w hS => ro_nilCheck rfl) ?_
      refine ql_ro rfl (fun w hS => ro_fieldAddr (k := 8) rfl fo_49_8) ?_
      refine ql_ro rfl (fun w hS => ro_loadB rfl sc_47 (hS) rfl) ?_
      refine ql_ro rfl (fun w hS => ro_move rfl) ?_
      refine ql_ro rfl (fun w hS => ro_nilCheck rfl) ?_
      refine ql_ro rfl (fun w hS => ro_fieldAddr (k := 6) rfl fo_49_6) ?_
      refine ql_ro rfl (fun w hS => ro_loadB rfl sc_3 (hS) rfl) ?_
      refine ql_ro rfl (fun w hS => ro_move rfl) ?_
      refine ql_ro rfl (fun w hS => ro_nilCheck rfl) ?_
      refine ql_ro rfl (fun w hS => ro_fieldAddr (k := 7) rfl fo_49_7) ?_
      refine ql_ro rfl (fun w hS => ro_loadB rfl sc_3 (hS) rfl) ?_
      refine ql_ro rfl (fun w hS => ro_build rfl bld_94_0_1_2) ?_
      refine ql_eo rfl (eo_bs1 rfl rfl se_46 zx_94 rfl rfl rfl) (hBz.alloc _) ?_
      have hN := Blk.new { w10 with drawn := w10.drawn + 1 } (anc (fz, x.2.inf, x.2.tried, [])) 94
      have M2 := (MSz.none (Fram.drew none' w10 (w10.drawn + 1))).none (Fram.alloc none' _ (.cells (anc (fz, x.2.inf, x.2.tried, [])).toArray 94))
      refine ql_app (news := anc (fz, x.2.inf, x.2.tried, [])) rfl rfl rfl se_46 zx_94 by_94 rfl M2.own hN rfl rfl (by simp [anc, S, i64c, Value.oneCell']) (by simp only; omega) (by simp only; omega) ?_
      intro V3 w12 hown hgr hloc
      obtain ⟨a3, cap3, rfl⟩ := hown.form
      have FA : Fram (fun b => (Value.slice al x.2.list.length capl).ownBlock = some b) _ w12 := Fram.grown hgr (fun k hk => .inl hk)
      have hb3 := M2.blk.fram FA (fun hk => M2.own.neblk M2.blk (by decide) _ hk rfl)
      refine ⟨hb3, ?_⟩
      refine ql_ro rfl (fun w hS => ro_nilCheck rfl) ?_
      refine ql_ro rfl (fun w hS => ro_fieldAddr (k := 5) rfl fo_49_5) ?_
      refine ql_last rfl (so_storeB rfl rfl rfl sz_46 (hb3) (by simp)) ?_
      have FS : Fram (fun b => b = sb) w12 (w12.setRow sb [ptr mpb, .bool true, S text, i64c k, i64c 0, .slice a3 (x.2.list.length + 1) cap3, i64c x.2.inf, i64c x.2.tried, i64c fz].toArray) := Fram.set w12 sb _ (.inl rfl)
      have B4 := hb3.set [ptr mpb, .bool true, S text, i64c k, i64c 0, .slice a3 (x.2.list.length + 1) cap3, i64c x.2.inf, i64c x.2.tried, i64c fz]
      have O4 := hown.fram FS (fun b hb' he => hown.neblk hb3 (by decide) b hb' he)
      have hsz := F010.size
      have FD := (Fram.drew none' w10 (w10.drawn + 1)).thenAlloc (o := .cells (anc (fz, x.2.inf, x.2.tried, [])).toArray 94)
      have F4 : Fram (fun b => b = sb) w _ := ((F010.trans' FD (fun _ _ h => h.elim)).trans' FA (fun q hq h => by have := hn10 q h; omega)).trans FS
      have hP4 := ((hP10.fram FD (fun _ _ h => h)).framT FA M2.own.typ rfl rfl).framT FS hb3.typ rfl rfl
      have hnew : ∀ b, (Value.slice a3 (x.2.list.length + 1) cap3).ownBlock = some b → w.heap.size ≤ b := by
        intro b hb'
        rcases hloc with h | h
        · rw [h] at hb'; exact hn10 b hb'
        · rw [h] at hb'; cases hb'; simp; omega
      refine x_then (hK21 _ _ ?_)
      clear hK21 K21
      refine forget [] trivial (fun e => ?_)
      refine c_seq (fun K22 hK22 => ?_)
      refine c_reg ?_ -- region 21 solvem.go:93
      refine wl (ro_assign rfl) ?_
      refine wl_nil (x_then (hK22 _ _ ?_))
      clear hK22 K22
      refine c_ret ?_
      refine bp_ret Tryz.results21 rfl ?_
      refine ⟨rfl, fun b => SFoot sb (.slice a3 (x.2.list.length + 1) cap3) b ∨ MPFoot mpb VT VC b, ⟨mpb, VT, VC, _, hP4, h2, ⟨?_, ?_⟩, fun b => Iff.rfl⟩, ?_, F4.mono (fun q _ h => (h4 q).2 (.inl (.inl h)))⟩
      · simp only [← hfzz, List.length_append, List.length_singleton]
        exact B4
      · simp only [← hfzz]
        simpa using O4
      · rintro b ((h | h) | h)
        · exact .inl ((h4 b).2 (.inl (.inl h)))
        · exact .inr (hnew b h)
        · exact .inl ((h4 b).2 (.inr h))
    · try simp only [decide_eq_true_eq, decide_eq_false_iff_not, Bool.not_eq_true', Bool.not_eq_false', Bool.not_eq_eq_eq_not, Bool.not_true, Bool.not_false, beq_iff_eq, bne_iff_ne, ne_eq, beq_eq_false_iff_ne, bne_eq_false_iff_eq, gt_iff_lt, ge_iff_le, Int.not_lt, Int.not_le] at hc84
      have hx0 : x.2.fin ≠ 0 := by simpa using hc84
      have hfz : finE x.2.fin = x.2.fin := by unfold finE; rw [if_neg hx0]
      have MSz : SM w10.heap sb VL2 ⟨mpb, true, text, k, 0⟩ ⟨x.2.inf, x.2.tried, finE x.2.fin, x.2.list⟩ := by rw [hfz]; exact MS10
      refine c_skip (x_then (hK19 _ _ ?_))
      clear hK19 K19
      refine forget [(0, _)] ⟨rfl, trivial⟩ (fun e => ?_)
      refine c_seq (fun K23 hK23 => ?_)
      obtain ⟨fz, hfzz⟩ : ∃ fz, fz = finE x.2.fin := ⟨_, rfl⟩
      rw [← hfzz] at MSz
      obtain ⟨al, capl, rfl⟩ := MSz.own.form
      have hBz := MSz.blk
      refine c_piL 22 [(0, false), (1, false), (2, false), (3, false), (4, false), (5, false), (6, false), (7, false), (8, false), (9, false), (10, false), (11, false), (12, false), (13, false), (14, false), (15, false), (16, false), (17, false), (18, true), (19, true), (20, false), (21, false)] (fun w' => Blk w'.heap sb [ptr mpb, .bool true, S text, i64c k, i64c 0, .slice al x.2.list.length capl, i64c x.2.inf, i64c x.2.tried, i64c fz] 49) mixed (by kernel_rfl) rfl (by kernel_rfl) (po_then (po_bp)) (hBz) ?_ -- region 20 solvem.go:92
      refine ql_ro rfl (fun w hS => ro_move rfl) ?_
      refine ql_ro rfl (fun w hS => ro_move rfl) ?_
      refine ql_ro rfl (fun w hS => ro_nilCheck rfl) ?_
      refine ql_ro rfl (fun w hS => ro_fieldAddr (k := 5) rfl fo_49_5) ?_
      refine ql_ro rfl (fun w hS => ro_loadB rfl sc_46 (hS) rfl) ?_
      refine ql_ro rfl (fun w hS => ro_move rfl) ?_
      refine ql_ro rfl (fun w hS => ro_nilCheck rfl) ?_
      refine ql_ro rfl (fun w hS => ro_fieldAddr (k := 8) rfl fo_49_8) ?_
      refine ql_ro rfl (fun w hS => ro_loadB rfl sc_47 (hS) rfl) ?_
      refine ql_ro rfl (fun w hS => ro_move rfl) ?_
      refine ql_ro rfl (fun w hS => ro_nilCheck rfl) ?_
      refine ql_ro rfl (fun w hS => ro_fieldAddr (k := 6) rfl fo_49_6) ?_
      refine ql_ro rfl (fun w hS => ro_loadB rfl sc_3 (hS) rfl) ?_
      refine ql_ro rfl (fun w hS => ro_move rfl) ?_
      refine ql_ro rfl (fun w hS => ro_nilCheck rfl) ?_
      refine ql_ro rfl (fun w hS => ro_fieldAddr (k := 7) rfl fo_49_7) ?_
      refine ql_ro rfl (fun w hS => ro_loadB rfl sc_3 (hS) rfl) ?_
      refine ql_ro rfl (fun w hS => ro_build rfl bld_94_0_1_2) ?_
      refine ql_eo rfl (eo_bs1 rfl rfl se_46 zx_94 rfl rfl rfl) (hBz.alloc _) ?_
      have hN := Blk.new { w10 with drawn := w10.drawn + 1 } (anc (fz, x.2.inf, x.2.tried, [])) 94
      have M2 := (MSz.none (Fram.drew none' w10 (w10.drawn + 1))).none (Fram.alloc none' _ (.cells (anc (fz, x.2.inf, x.2.tried, [])).toArray 94))
      refine ql_app (news := anc (fz, x.2.inf, x.2.tried, [])) rfl rfl rfl se_46 zx_94 by_94 rfl M2.own hN rfl rfl (by simp [anc, S, i64c, Value.oneCell']) (by simp only; omega) (by simp only; omega) ?_
      intro V3 w12 hown hgr hloc
      obtain ⟨a3, cap3, rfl⟩ := hown.form
      have FA : Fram (fun b => (Value.slice al x.2.list.length capl).ownBlock = some b) _ w12 := Fram.grown hgr (fun k hk => .inl hk)
      have hb3 := M2.blk.fram FA (fun hk => M2.own.neblk M2.blk (by decide) _ hk rfl)
      refine ⟨hb3, ?_⟩
      refine ql_ro rfl (fun w hS => ro_nilCheck rfl) ?_
      refine ql_ro rfl (fun w hS => ro_fieldAddr (k := 5) rfl fo_49_5) ?_
      refine ql_last rfl (so_storeB rfl rfl rfl sz_46 (hb3) (by simp)) ?_
      have FS : Fram (fun b => b = sb) w12 (w12.setRow sb [ptr mpb, .bool true, S text, i64c k, i64c 0, .slice a3 (x.2.list.length + 1) cap3, i64c x.2.inf, i64c x.2.tried, i64c fz].toArray) := Fram.set w12 sb _ (.inl rfl)
      have B4 := hb3.set [ptr mpb, .bool true, S text, i64c k, i64c 0, .slice a3 (x.2.list.length + 1) cap3, i64c x.2.inf, i64c x.2.tried, i64c fz]
      have O4 := hown.fram FS (fun b hb' he => hown.neblk hb3 (by decide) b hb' he)
      have hsz := F010.size
      have FD := (Fram.drew none' w10 (w10.drawn + 1)).thenAlloc (o := .cells (anc (fz, x.2.inf, x.2.tried, [])).toArray 94)
      have F4 : Fram (fun b => b = sb) w _ := ((F010.trans' FD (fun _ _ h => h.elim)).trans' FA (fun q hq h => by have := hn10 q h; omega)).trans FS
      have hP4 := ((hP10.fram FD (fun _ _ h => h)).framT FA M2.own.typ rfl rfl).framT FS hb3.typ rfl rfl
      have hnew : ∀ b, (Value.slice a3 (x.2.list.length + 1) cap3).ownBlock = some b → w.heap.size ≤ b := by
        intro b hb'
        rcases hloc with h | h
        · rw [h] at hb'; exact hn10 b hb'
        · rw [h] at hb'; cases hb'; simp; omega
      refine x_then (hK23 _ _ ?_)
      clear hK23 K23
      refine forget [] trivial (fun e => ?_)
      refine c_seq (fun K24 hK24 => ?_)
      refine c_reg ?_ -- region 21 solvem.go:93
      refine wl (ro_assign rfl) ?_
      refine wl_nil (x_then (hK24 _ _ ?_))
      clear hK24 K24
      refine c_ret ?_
      refine bp_ret Tryz.results21 rfl ?_
      refine ⟨rfl, fun b => SFoot sb (.slice a3 (x.2.list.length + 1) cap3) b ∨ MPFoot mpb VT VC b, ⟨mpb, VT, VC, _, hP4, h2, ⟨?_, ?_⟩, fun b => Iff.rfl⟩, ?_, F4.mono (fun q _ h => (h4 q).2 (.inl (.inl h)))⟩
      · simp only [← hfzz, List.length_append, List.length_singleton]
        exact B4
      · simp only [← hfzz]
        simpa using O4
      · rintro b ((h | h) | h)
        · exact .inl ((h4 b).2 (.inl (.inl h)))
        · exact .inr (hnew b h)
        · exact .inl ((h4 b).2 (.inr h))

end Go.Proofs.Qxb6500569aGreat
