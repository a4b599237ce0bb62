import Derived.Test.Qxb6500569aGreatXg
/- The real machine: Ask. -/
namespace Go.Proofs.Qxb6500569aGreat
set_option linter.unusedVariables false
set_option linter.unusedSimpArgs false

theorem ro_b2sN {P : Program} {n : Nat} {e : Nat → Option Value} {w : World} {src dst et : Nat} {x : Operand} (hx : evO n e x = some (.slice none 0 0)) (hs : selB P src et 1 = true) (he : intB P et .u8 = true) (hd : strB P dst = true) : RO P n e w (.convert src dst x) (S []) := by
  intro ds dst' ty ps af g
  have hb : (Conv.bytesToString (.slice none 0 0)).run P w = .ok (S []) w := by rfl
  have t1 := (selB_spec hs).1
  simp [execOp, evO_eval hx, convert, run_underlying t1, run_underlying (strB_spec hd), run_underlying (intB_spec he), hb]

theorem Stp.trans {w w1 w2 : World} {sb : Nat} {L : HL} {pb : Nat} {V V1 V2 : Value × Value × Value} {s1 s2 : RSt} {Fp : Nat → Prop} (h : Stp w w1 sb L pb V V1 s1 Fp) (k : Stp w1 w2 sb L pb V1 V2 s2 Fp) : Stp w w2 sb L pb V V2 s2 Fp := by
  have hsz := h.fr.size
  refine ⟨k.m, h.fr.trans' k.fr ?_, ?_, ?_, ?_⟩
  · intro b hb hx
    rcases hx with hx | hx | hx | hx | hx
    · exact .inl hx
    · exact .inr (.inl hx)
    · rcases h.nf b hx with h' | h'
      · exact .inr (.inr (.inl h'))
      · omega
    · rcases h.ng b hx with h' | h'
      · exact .inr (.inr (.inr (.inl h')))
      · omega
    · rcases h.np b hx with h' | h'
      · exact .inr (.inr (.inr (.inr h')))
      · omega
  · intro b hb
    rcases k.nf b hb with h' | h'
    · exact h.nf b h'
    · exact .inr (by omega)
  · intro b hb
    rcases k.ng b hb with h' | h'
    · exact h.ng b h'
    · exact .inr (by omega)
  · intro b hb
    rcases k.np b hb with h' | h'
    · exact h.np b h'
    · exact .inr (by omega)

theorem Stp.none {w w1 : World} {sb : Nat} {L : HL} {pb : Nat} {V : Value × Value × Value} {s : RSt} {Fp : Nat → Prop} (M : SRm w.heap sb L pb V.1 V.2.1 V.2.2 s Fp) (hF : Fram none' w w1) : Stp w w1 sb L pb V V s Fp :=
  ⟨M.none hF, hF.mono (fun _ _ h => h.elim), fun b h => .inl h, fun b h => .inl h, fun b h => .inl h⟩

theorem Inv0.stp {w w' : World} {sb : Nat} {L : HL} {pb : Nat} {V0 V : Value × Value × Value} {s0 s : RSt} {Fp : Nat → Prop} (h : Inv0 w w' sb L pb V0 s0 V s Fp) : Stp w w' sb L pb V0 V s Fp := ⟨h.m, h.fr, h.nf, h.ng, h.np⟩

theorem Stp.post {w w' : World} {sb : Nat} {L : HL} {pb : Nat} {V0 V : Value × Value × Value} {s : RSt} {Fp F : Nat → Prop} (h : Stp w w' sb L pb V0 V s Fp) (ok : POK s.cls) (hF : ∀ b, F b ↔ (SFt sb L V0.1 V0.2.1 V0.2.2 b ∨ Fp b)) : RPostF F sb s w w' := by
  refine ⟨fun b => SFt sb L V.1 V.2.1 V.2.2 b ∨ Fp b, ⟨L, pb, V, Fp, h.m, ok, fun b => Iff.rfl⟩, ?_, h.fr.mono (fun b _ hb => (hF b).2 (.inl hb))⟩
  rintro b ((hb | hb | hb | hb | hb) | hb)
  · exact .inl ((hF b).2 (.inl (.inl hb)))
  · exact .inl ((hF b).2 (.inl (.inr (.inl hb))))
  · rcases h.nf b hb with h | h
    · exact .inl ((hF b).2 (.inl (.inr (.inr (.inl h)))))
    · exact .inr h
  · rcases h.ng b hb with h | h
    · exact .inl ((hF b).2 (.inl (.inr (.inr (.inr (.inl h))))))
    · exact .inr h
  · rcases h.np b hb with h | h
    · exact .inl ((hF b).2 (.inl (.inr (.inr (.inr (.inr h))))))
    · exact .inr h
  · exact .inl ((hF b).2 (.inr hb))

def rAskE (s : RSt) (text : List UInt8) (fuel : Int) : Nat :=
  if 40 < text.length then 1 else if s.opn then 2 else if fuel < 0 ∨ 24 < fuel then 4 else match compS text true with
    | .none => 5
    | .some _ => 0

def AskPost (F : Nat → Prop) (sb : Nat) (s : RSt) (text : List UInt8) (fuel : Int) (w : World) (r : Value) (w' : World) : Prop :=
  r = i64c (rAskE s text fuel) ∧ ((rAskE s text fuel ≠ 0 ∧ RPostF F sb s w w') ∨ (rAskE s text fuel = 0 ∧ ∃ code s', compS text true = some code ∧ RPostF F sb s' w w' ∧ s'.cls = s.cls ∧ s'.opn = true ∧ s'.q = text ∧ s'.fuel = fuel.toNat ∧ s'.given = 0 ∧ text.length ≤ 40 ∧ fuel.toNat ≤ 24 ∧ s.opn = false ∧ RunOK s' ⟨nsOf code 0, (kidsS (nsOf code 0) 0 0 0 0).map gf, [], [], 0, 0⟩))

theorem Ask20 {w : World} {sb : Nat} {s : RSt} {F : Nat → Prop} (M : RAll w.heap sb s F) (hcl : s.opn = false → s.frs = [] ∧ s.chs = [] ∧ s.proof = []) (text : List UInt8) (fuel : Int) :
    Ret Tryz.prog 20 [ptr sb, S text, .int .i64 fuel] w (AskPost F sb s text fuel w) := by
  have M0 := M
  obtain ⟨L, pb, V, Fp, M, ok, hF⟩ := M
  have hB := M.blk
  unfold AskPost
  by_cases hl : 40 < text.length
  · have e1 : rAskE s text fuel = 1 := by unfold rAskE; rw [if_pos hl]
    rw [e1]
    refine ret_of Tryz.func20 rfl Tryz.ntmps20 rfl ?_
    refine c_seq (fun K1 hK1 => ?_)
    refine c_reg ?_ -- region 0 solve.go:79
    refine wl (ro_assign rfl) ?_
    refine wl_nil (x_then (hK1 _ _ ?_))
    clear hK1 K1
    refine c_seq (fun K2 hK2 => ?_)
    refine c_seq (fun K3 hK3 => ?_)
    refine c_reg ?_ -- region 1 solve.go:80
    refine wl (ro_move rfl) ?_
    refine wl (ro_lenS rfl st_9) ?_
    refine wl (ro_cmp (r := true) rfl rfl (by simp; omega)) ?_
    refine wl_nil (x_then (hK3 _ _ ?_))
    clear hK3 K3
    refine wc_condT rfl ?_
    refine c_seq (fun K4 hK4 => ?_)
    refine c_reg ?_ -- region 2 solve.go:81
    refine wl (ro_assign rfl) ?_
    refine wl_nil (x_then (hK4 _ _ ?_))
    clear hK4 K4
    refine c_ret (x_thenR ?_)
    refine bp_ret Tryz.results20 rfl ?_
    exact ⟨rfl, .inl ⟨by decide, .same M0 (Fram.refl _ _)⟩⟩
  cases ho : s.opn with
  | true =>
    have e1 : rAskE s text fuel = 2 := by unfold rAskE; rw [if_neg hl, ho]; rfl
    rw [e1]
    simp only [ho] at hB
    refine ret_of Tryz.func20 rfl Tryz.ntmps20 rfl ?_
    refine c_seq (fun K1 hK1 => ?_)
    refine c_reg ?_ -- region 0 solve.go:79
    refine wl (ro_assign rfl) ?_
    refine wl_nil (x_then (hK1 _ _ ?_))
    clear hK1 K1
    refine c_seq (fun K2 hK2 => ?_)
    refine c_seq (fun K3 hK3 => ?_)
    refine c_reg ?_ -- region 1 solve.go:80
    refine wl (ro_move rfl) ?_
    refine wl (ro_lenS rfl st_9) ?_
    refine wl (ro_cmp (r := false) rfl rfl (by simp; omega)) ?_
    refine wl_nil (x_then (hK3 _ _ ?_))
    clear hK3 K3
    refine wc_condF rfl ?_
    refine c_skip (x_then (hK2 _ _ ?_))
    clear hK2 K2
    refine c_seq (fun K4 hK4 => ?_)
    refine c_seq (fun K5 hK5 => ?_)
    refine c_reg ?_ -- region 3 solve.go:83
    refine wl (ro_move rfl) ?_
    refine wl (ro_nilCheck rfl) ?_
    refine wl (ro_fieldAddr (k := 2) rfl fo_82_2) ?_
    refine wl (ro_loadB rfl sc_4 (by assumption) rfl) ?_
    refine wl_nil (x_then (hK5 _ _ ?_))
    clear hK5 K5
    refine wc_condT rfl ?_
    refine c_seq (fun K6 hK6 => ?_)
    refine c_reg ?_ -- region 4 solve.go:84
    refine wl (ro_assign rfl) ?_
    refine wl_nil (x_then (hK6 _ _ ?_))
    clear hK6 K6
    refine c_ret (x_thenR ?_)
    refine bp_ret Tryz.results20 rfl ?_
    exact ⟨rfl, .inl ⟨by decide, .same M0 (Fram.refl _ _)⟩⟩
  | false =>
  simp only [ho] at hB
  by_cases hf0 : fuel < 0
  · have e1 : rAskE s text fuel = 4 := by unfold rAskE; rw [if_neg hl, ho, if_neg (by decide), if_pos (.inl hf0)]
    rw [e1]
    refine ret_of Tryz.func20 rfl Tryz.ntmps20 rfl ?_
    refine c_seq (fun K1 hK1 => ?_)
    refine c_reg ?_ -- region 0 solve.go:79
    refine wl (ro_assign rfl) ?_
    refine wl_nil (x_then (hK1 _ _ ?_))
    clear hK1 K1
    refine c_seq (fun K2 hK2 => ?_)
    refine c_seq (fun K3 hK3 => ?_)
    refine c_reg ?_ -- region 1 solve.go:80
    refine wl (ro_move rfl) ?_
    refine wl (ro_lenS rfl st_9) ?_
    refine wl (ro_cmp (r := false) rfl rfl (by simp; omega)) ?_
    refine wl_nil (x_then (hK3 _ _ ?_))
    clear hK3 K3
    refine wc_condF rfl ?_
    refine c_skip (x_then (hK2 _ _ ?_))
    clear hK2 K2
    refine c_seq (fun K4 hK4 => ?_)
    refine c_seq (fun K5 hK5 => ?_)
    refine c_reg ?_ -- region 3 solve.go:83
    refine wl (ro_move rfl) ?_
    refine wl (ro_nilCheck rfl) ?_
    refine wl (ro_fieldAddr (k := 2) rfl fo_82_2) ?_
    refine wl (ro_loadB rfl sc_4 (by assumption) rfl) ?_
    refine wl_nil (x_then (hK5 _ _ ?_))
    clear hK5 K5
    refine wc_condF rfl ?_
    refine c_skip (x_then (hK4 _ _ ?_))
    clear hK4 K4
    refine c_seq (fun K6 hK6 => ?_)
    refine c_seq (fun K7 hK7 => ?_)
    refine c_reg ?_ -- region 5 solve.go:86
    refine wl (ro_move rfl) ?_
    refine wl (ro_cmp (r := true) rfl rfl (by simp; omega)) ?_
    refine wl (ro_move rfl) ?_
    refine wlg_no rfl ?_
    refine wlg_no rfl ?_
    refine wl (ro_pick rfl rfl rfl) ?_
    refine wl_nil (x_then (hK7 _ _ ?_))
    clear hK7 K7
    refine wc_condT rfl ?_
    refine c_seq (fun K8 hK8 => ?_)
    refine c_reg ?_ -- region 6 solve.go:87
    refine wl (ro_assign rfl) ?_
    refine wl_nil (x_then (hK8 _ _ ?_))
    clear hK8 K8
    refine c_ret (x_thenR ?_)
    refine bp_ret Tryz.results20 rfl ?_
    exact ⟨rfl, .inl ⟨by decide, .same M0 (Fram.refl _ _)⟩⟩
  by_cases hf24 : 24 < fuel
  · have e1 : rAskE s text fuel = 4 := by unfold rAskE; rw [if_neg hl, ho, if_neg (by decide), if_pos (.inr hf24)]
    rw [e1]
    refine ret_of Tryz.func20 rfl Tryz.ntmps20 rfl ?_
    refine c_seq (fun K1 hK1 => ?_)
    refine c_reg ?_ -- region 0 solve.go:79
    refine wl (ro_assign rfl) ?_
    refine wl_nil (x_then (hK1 _ _ ?_))
    clear hK1 K1
    refine c_seq (fun K2 hK2 => ?_)
    refine c_seq (fun K3 hK3 => ?_)
    refine c_reg ?_ -- region 1 solve.go:80
    refine wl (ro_move rfl) ?_
    refine wl (ro_lenS rfl st_9) ?_
    refine wl (ro_cmp (r := false) rfl rfl (by simp; omega)) ?_
    refine wl_nil (x_then (hK3 _ _ ?_))
    clear hK3 K3
    refine wc_condF rfl ?_
    refine c_skip (x_then (hK2 _ _ ?_))
    clear hK2 K2
    refine c_seq (fun K4 hK4 => ?_)
    refine c_seq (fun K5 hK5 => ?_)
    refine c_reg ?_ -- region 3 solve.go:83
    refine wl (ro_move rfl) ?_
    refine wl (ro_nilCheck rfl) ?_
    refine wl (ro_fieldAddr (k := 2) rfl fo_82_2) ?_
    refine wl (ro_loadB rfl sc_4 (by assumption) rfl) ?_
    refine wl_nil (x_then (hK5 _ _ ?_))
    clear hK5 K5
    refine wc_condF rfl ?_
    refine c_skip (x_then (hK4 _ _ ?_))
    clear hK4 K4
    refine c_seq (fun K6 hK6 => ?_)
    refine c_seq (fun K7 hK7 => ?_)
    refine c_reg ?_ -- region 5 solve.go:86
    refine wl (ro_move rfl) ?_
    refine wl (ro_cmp (r := false) rfl rfl (by simp; omega)) ?_
    refine wl (ro_move rfl) ?_
    refine wlg_yes rfl (ro_move rfl) ?_
    refine wlg_yes rfl (ro_cmp (r := true) rfl rfl (by simp; omega)) ?_
    refine wl (ro_pick rfl rfl rfl) ?_
    refine wl_nil (x_then (hK7 _ _ ?_))
    clear hK7 K7
    refine wc_condT rfl ?_
    refine c_seq (fun K8 hK8 => ?_)
    refine c_reg ?_ -- region 6 solve.go:87
    refine wl (ro_assign rfl) ?_
    refine wl_nil (x_then (hK8 _ _ ?_))
    clear hK8 K8
    refine c_ret (x_thenR ?_)
    refine bp_ret Tryz.results20 rfl ?_
    exact ⟨rfl, .inl ⟨by decide, .same M0 (Fram.refl _ _)⟩⟩
  obtain ⟨k, rfl⟩ : ∃ k : Nat, fuel = (k : Int) := ⟨fuel.toNat, by omega⟩
  cases hc : compS text true with
  | none =>
    have e1 : rAskE s text k = 5 := by unfold rAskE; rw [if_neg hl, ho, if_neg (by decide), if_neg (by omega), hc]
    rw [e1]
    have hQ : Ret Tryz.prog 29 [ptr pb, S text] w (fun r w' => r = .tuple #[S [], i64c 5] ∧ Fram none' w w') := (Query29 (w := w) (pb := pb) (text := text) (by omega)).mono (by rintro _ w' ⟨rfl, F⟩; exact ⟨by rw [hc]; rfl, F⟩)
    refine ret_of Tryz.func20 rfl Tryz.ntmps20 rfl ?_
    refine c_seq (fun K1 hK1 => ?_)
    refine c_reg ?_ -- region 0 solve.go:79
    refine wl (ro_assign rfl) ?_
    refine wl_nil (x_then (hK1 _ _ ?_))
    clear hK1 K1
    refine c_seq (fun K2 hK2 => ?_)
    refine c_seq (fun K3 hK3 => ?_)
    refine c_reg ?_ -- region 1 solve.go:80
    refine wl (ro_move rfl) ?_
    refine wl (ro_lenS rfl st_9) ?_
    refine wl (ro_cmp (r := false) rfl rfl (by simp; omega)) ?_
    refine wl_nil (x_then (hK3 _ _ ?_))
    clear hK3 K3
    refine wc_condF rfl ?_
    refine c_skip (x_then (hK2 _ _ ?_))
    clear hK2 K2
    refine c_seq (fun K4 hK4 => ?_)
    refine c_seq (fun K5 hK5 => ?_)
    refine c_reg ?_ -- region 3 solve.go:83
    refine wl (ro_move rfl) ?_
    refine wl (ro_nilCheck rfl) ?_
    refine wl (ro_fieldAddr (k := 2) rfl fo_82_2) ?_
    refine wl (ro_loadB rfl sc_4 (by assumption) rfl) ?_
    refine wl_nil (x_then (hK5 _ _ ?_))
    clear hK5 K5
    refine wc_condF rfl ?_
    refine c_skip (x_then (hK4 _ _ ?_))
    clear hK4 K4
    refine c_seq (fun K6 hK6 => ?_)
    refine c_seq (fun K7 hK7 => ?_)
    refine c_reg ?_ -- region 5 solve.go:86
    refine wl (ro_move rfl) ?_
    refine wl (ro_cmp (r := false) rfl rfl (by simp)) ?_
    refine wl (ro_move rfl) ?_
    refine wlg_yes rfl (ro_move rfl) ?_
    refine wlg_yes rfl (ro_cmp (r := false) rfl rfl (by simp; omega)) ?_
    refine wl (ro_pick rfl rfl rfl) ?_
    refine wl_nil (x_then (hK7 _ _ ?_))
    clear hK7 K7
    refine wc_condF rfl ?_
    refine c_skip (x_then (hK6 _ _ ?_))
    clear hK6 K6
    refine forget [(0, _), (1, _), (2, _)] ⟨rfl, rfl, rfl, trivial⟩ (fun e => ?_)
    refine c_seq (fun K8 hK8 => ?_)
    refine c_reg ?_ -- region 7 solve.go:89
    refine wl (ro_move rfl) ?_
    refine wl (ro_nilCheck rfl) ?_
    refine wl (ro_fieldAddr (k := 1) rfl fo_82_1) ?_
    refine wl (ro_loadB rfl sc_25 (by assumption) rfl) ?_
    refine wl (ro_move rfl) ?_
    refine wl_call rfl en_29 (hQ) ?_
    rintro _ w1 ⟨rfl, F1⟩
    refine wl (ro_move rfl) ?_
    refine wl (ro_extract rfl rfl) ?_
    refine wl (ro_extract rfl rfl) ?_
    refine wl (ro_assign rfl) ?_
    refine wl (ro_assign rfl) ?_
    refine wl_nil (x_then (hK8 _ _ ?_))
    clear hK8 K8
    refine c_seq (fun K9 hK9 => ?_)
    refine c_seq (fun K10 hK10 => ?_)
    refine c_reg ?_ -- region 8 solve.go:90
    refine wl (ro_move rfl) ?_
    refine wl (ro_cmp rfl rfl rfl) ?_
    refine wl_nil (x_then (hK10 _ _ ?_))
    clear hK10 K10
    refine wc_condT rfl ?_
    refine c_seq (fun K11 hK11 => ?_)
    refine c_reg ?_ -- region 9 solve.go:91
    refine wl (ro_move rfl) ?_
    refine wl (ro_assign rfl) ?_
    refine wl_nil (x_then (hK11 _ _ ?_))
    clear hK11 K11
    refine c_ret (x_thenR ?_)
    refine bp_ret Tryz.results20 rfl ?_
    exact ⟨rfl, .inl ⟨by decide, .same M0 F1⟩⟩
  | some code =>
    have e1 : rAskE s text k = 0 := by unfold rAskE; rw [if_neg hl, ho, if_neg (by decide), if_neg (by omega), hc]
    rw [e1]
    have hQ : Ret Tryz.prog 29 [ptr pb, S text] w (fun r w' => r = .tuple #[S code, i64c 0] ∧ Fram none' w w') := (Query29 (w := w) (pb := pb) (text := text) (by omega)).mono (by rintro _ w' ⟨rfl, F⟩; exact ⟨by rw [hc]; rfl, F⟩)
    obtain ⟨hgood, hcl'⟩ := compS_ok hc
    have hlay := good_nsOf hgood 0
    obtain ⟨ns, hns⟩ : ∃ ns, ns = nsOf code 0 := ⟨_, rfl⟩
    rw [← hns] at hlay
    obtain ⟨rst, hrst⟩ := compS_qhead hc
    have hnp : 0 < ns.length := lays_pos (hrst ▸ hlay) rfl
    have hn48 : ns.length ≤ 48 := by obtain ⟨k, env, h⟩ := hlay; have := (h.facts (envLt0 _)).2.2.2.2.2; simp at this; omega
    obtain ⟨hok, h4'⟩ := lays_hok (hp := []) hok_nil hlay (by simp; omega)
    rw [List.nil_append] at hok h4'
    have h4 := h4' (by intro nd h; cases h)
    obtain ⟨f1, f2, f3⟩ := hcl ho
    refine ret_of Tryz.func20 rfl Tryz.ntmps20 rfl ?_
    refine c_seq (fun K1 hK1 => ?_)
    refine c_reg ?_ -- region 0 solve.go:79
    refine wl (ro_assign rfl) ?_
    refine wl_nil (x_then (hK1 _ _ ?_))
    clear hK1 K1
    refine c_seq (fun K2 hK2 => ?_)
    refine c_seq (fun K3 hK3 => ?_)
    refine c_reg ?_ -- region 1 solve.go:80
    refine wl (ro_move rfl) ?_
    refine wl (ro_lenS rfl st_9) ?_
    refine wl (ro_cmp (r := false) rfl rfl (by simp; omega)) ?_
    refine wl_nil (x_then (hK3 _ _ ?_))
    clear hK3 K3
    refine wc_condF rfl ?_
    refine c_skip (x_then (hK2 _ _ ?_))
    clear hK2 K2
    refine c_seq (fun K4 hK4 => ?_)
    refine c_seq (fun K5 hK5 => ?_)
    refine c_reg ?_ -- region 3 solve.go:83
    refine wl (ro_move rfl) ?_
    refine wl (ro_nilCheck rfl) ?_
    refine wl (ro_fieldAddr (k := 2) rfl fo_82_2) ?_
    refine wl (ro_loadB rfl sc_4 (by assumption) rfl) ?_
    refine wl_nil (x_then (hK5 _ _ ?_))
    clear hK5 K5
    refine wc_condF rfl ?_
    refine c_skip (x_then (hK4 _ _ ?_))
    clear hK4 K4
    refine c_seq (fun K6 hK6 => ?_)
    refine c_seq (fun K7 hK7 => ?_)
    refine c_reg ?_ -- region 5 solve.go:86
    refine wl (ro_move rfl) ?_
    refine wl (ro_cmp (r := false) rfl rfl (by simp)) ?_
    refine wl (ro_move rfl) ?_
    refine wlg_yes rfl (ro_move rfl) ?_
    refine wlg_yes rfl (ro_cmp (r := false) rfl rfl (by simp; omega)) ?_
    refine wl (ro_pick rfl rfl rfl) ?_
    refine wl_nil (x_then (hK7 _ _ ?_))
    clear hK7 K7
    refine wc_condF rfl ?_
    refine c_skip (x_then (hK6 _ _ ?_))
    clear hK6 K6
    refine forget [(0, _), (1, _), (2, _)] ⟨rfl, rfl, rfl, trivial⟩ (fun e => ?_)
    refine c_seq (fun K8 hK8 => ?_)
    refine c_reg ?_ -- region 7 solve.go:89
    refine wl (ro_move rfl) ?_
    refine wl (ro_nilCheck rfl) ?_
    refine wl (ro_fieldAddr (k := 1) rfl fo_82_1) ?_
    refine wl (ro_loadB rfl sc_25 (by assumption) rfl) ?_
    refine wl (ro_move rfl) ?_
    refine wl_call rfl en_29 (hQ) ?_
    rintro _ w1 ⟨rfl, F1⟩
    have T1 := Stp.none M F1
    have hB1 := T1.m.blk
    refine wl (ro_move rfl) ?_
    refine wl (ro_extract rfl rfl) ?_
    refine wl (ro_extract rfl rfl) ?_
    refine wl (ro_assign rfl) ?_
    refine wl (ro_assign rfl) ?_
    refine wl_nil (x_then (hK8 _ _ ?_))
    clear hK8 K8
    refine c_seq (fun K9 hK9 => ?_)
    refine c_seq (fun K10 hK10 => ?_)
    refine c_reg ?_ -- region 8 solve.go:90
    refine wl (ro_move rfl) ?_
    refine wl (ro_cmp rfl rfl rfl) ?_
    refine wl_nil (x_then (hK10 _ _ ?_))
    clear hK10 K10
    refine wc_condF rfl ?_
    refine c_skip (x_then (hK9 _ _ ?_))
    clear hK9 K9
    refine forget [(0, _), (1, _), (2, _), (7, _)] ⟨rfl, rfl, rfl, rfl, trivial⟩ (fun e => ?_)
    refine c_seq (fun K11 hK11 => ?_)
    refine c_reg ?_ -- region 10 solve.go:93
    refine wl (ro_move rfl) ?_
    refine wl (ro_nilCheck rfl) ?_
    refine wl (ro_fieldAddr (k := 0) rfl fo_82_0) ?_
    refine wl (ro_loadB rfl sc_24 (hB1) rfl) ?_
    refine wl_call rfl en_30 (hReset T1.m.hpr) ?_
    rintro _ w2 ⟨hh, FF⟩
    have T2 := T1.trans (Stp.hp T1.m FF hh)
    have hB2 := T2.m.blk
    have hLd : Ret Tryz.prog 31 [ptr L.h, S code] w2 (fun r w' => r = .tuple #[i64c 0, i64c 0] ∧ HpR w'.heap L ns [] ∧ Fram L.foot w2 w') := (hLoad T2.m.hpr (code := code) (ns := ns) hlay (by omega)).mono (by
      intro r w' h
      rw [if_neg (by simp; omega)] at h
      exact h)
    clear T1 hB1 FF hh
    refine wl_nil (x_then (hK11 _ _ ?_))
    clear hK11 K11
    refine forget [(0, _), (1, _), (2, _), (7, _)] ⟨rfl, rfl, rfl, rfl, trivial⟩ (fun e => ?_)
    refine c_seq (fun K12 hK12 => ?_)
    refine c_reg ?_ -- region 11 solve.go:94
    refine wl (ro_move rfl) ?_
    refine wl (ro_nilCheck rfl) ?_
    refine wl (ro_fieldAddr (k := 0) rfl fo_82_0) ?_
    refine wl (ro_loadB rfl sc_24 (hB2) rfl) ?_
    refine wl (ro_move rfl) ?_
    refine wl_call rfl en_31 (hLd) ?_
    rintro _ w3 ⟨rfl, hh, FF⟩
    have T3 : Stp w w3 sb L pb V V { s with hp := ns, sn := [] } Fp := T2.trans (Stp.hp T2.m FF hh)
    clear T2 hB2 FF hh hLd
    have hB3 := T3.m.blk
    refine wl (ro_move rfl) ?_
    refine wl (ro_extract rfl rfl) ?_
    refine wl (ro_extract rfl rfl) ?_
    refine wl (ro_assign rfl) ?_
    refine wl (ro_assign rfl) ?_
    refine wl_nil (x_then (hK12 _ _ ?_))
    clear hK12 K12
    refine c_seq (fun K13 hK13 => ?_)
    refine c_seq (fun K14 hK14 => ?_)
    refine c_reg ?_ -- region 12 solve.go:95
    refine wl (ro_move rfl) ?_
    refine wl (ro_cmp rfl rfl rfl) ?_
    refine wl_nil (x_then (hK14 _ _ ?_))
    clear hK14 K14
    refine wc_condF rfl ?_
    refine c_skip (x_then (hK13 _ _ ?_))
    clear hK13 K13
    refine forget [(0, _), (1, _), (2, _), (9, _)] ⟨rfl, rfl, rfl, rfl, trivial⟩ (fun e => ?_)
    refine c_seq (fun K15 hK15 => ?_)
    refine c_reg ?_ -- region 14 solve.go:98
    refine wl (ro_move rfl) ?_
    refine wl (ro_move rfl) ?_
    refine wl (ro_move rfl) ?_
    refine wl (ro_move rfl) ?_
    refine wl (ro_move rfl) ?_
    refine wl (ro_move rfl) ?_
    refine wl (ro_nilCheck rfl) ?_
    refine wl (ro_fieldAddr (k := 2) rfl fo_82_2) ?_
    refine wls (so_storeB rfl rfl rfl sz_4 (hB3) (by simp)) ?_
    have T4 := T3.trans (T3.m.upS { s with hp := ns, sn := [], opn := true } rfl rfl rfl rfl rfl rfl)
    refine gen1 (A := fun w4 => Stp w w4 sb L pb V V { s with hp := ns, sn := [], opn := true } Fp) (C := fun w4 => WL _ _ _ _ _ w4) T4 ?_
    clear T4 T3 hB3
    intro w4 T4
    have hB4 := T4.m.blk
    refine wl (ro_nilCheck rfl) ?_
    refine wl (ro_fieldAddr (k := 3) rfl fo_82_3) ?_
    refine wls (so_storeB rfl rfl rfl sz_9 (hB4) (by simp)) ?_
    have T5 := T4.trans (T4.m.upS { s with hp := ns, sn := [], opn := true, q := text } rfl rfl rfl rfl rfl rfl)
    refine gen1 (A := fun w5 => Stp w w5 sb L pb V V { s with hp := ns, sn := [], opn := true, q := text } Fp) (C := fun w5 => WL _ _ _ _ _ w5) T5 ?_
    clear T5 T4 hB4
    intro w5 T5
    have hB5 := T5.m.blk
    refine wl (ro_nilCheck rfl) ?_
    refine wl (ro_fieldAddr (k := 4) rfl fo_82_4) ?_
    refine wls (so_storeB rfl rfl rfl sz_3 (hB5) (by simp)) ?_
    have T6 := T5.trans (T5.m.upS { s with hp := ns, sn := [], opn := true, q := text, fuel := k } rfl rfl rfl rfl rfl rfl)
    refine gen1 (A := fun w6 => Stp w w6 sb L pb V V { s with hp := ns, sn := [], opn := true, q := text, fuel := k } Fp) (C := fun w6 => WL _ _ _ _ _ w6) T6 ?_
    clear T6 T5 hB5
    intro w6 T6
    have hB6 := T6.m.blk
    refine wl (ro_nilCheck rfl) ?_
    refine wl (ro_fieldAddr (k := 5) rfl fo_82_5) ?_
    refine wls (so_storeB rfl rfl rfl sz_3 (hB6) (by simp)) ?_
    have T7 := T6.trans (T6.m.upS { s with hp := ns, sn := [], opn := true, q := text, fuel := k, given := 0 } rfl rfl rfl rfl rfl rfl)
    refine gen1 (A := fun w7 => Stp w w7 sb L pb V V { s with hp := ns, sn := [], opn := true, q := text, fuel := k, given := 0 } Fp) (C := fun w7 => WL _ _ _ _ _ w7) T7 ?_
    clear T7 T6 hB6
    intro w7 T7
    have hB7 := T7.m.blk
    refine wl_nil (x_then (hK15 _ _ ?_))
    clear hK15 K15
    refine forget [(0, _), (9, _)] ⟨rfl, rfl, trivial⟩ (fun e => ?_)
    refine c_seq (fun K16 hK16 => ?_)
    refine c_reg ?_ -- region 15 solve.go:99
    refine wl (ro_move rfl) ?_
    refine wl (ro_move rfl) ?_
    refine wl (ro_nilCheck rfl) ?_
    refine wl (ro_fieldAddr (k := 6) rfl fo_82_6) ?_
    refine wls (so_storeB rfl rfl rfl sz_3 (hB7) (by simp)) ?_
    have T8 := T7.trans (T7.m.upS { s with hp := ns, sn := [], opn := true, q := text, fuel := k, given := 0, inf := 0 } rfl rfl rfl rfl rfl rfl)
    refine gen1 (A := fun w8 => Stp w w8 sb L pb V V { s with hp := ns, sn := [], opn := true, q := text, fuel := k, given := 0, inf := 0 } Fp) (C := fun w8 => WL _ _ _ _ _ w8) T8 ?_
    clear T8 T7 hB7
    intro w8 T8
    have hB8 := T8.m.blk
    refine wl (ro_nilCheck rfl) ?_
    refine wl (ro_fieldAddr (k := 7) rfl fo_82_7) ?_
    refine wls (so_storeB rfl rfl rfl sz_3 (hB8) (by simp)) ?_
    have T9 := T8.trans (T8.m.upS { s with hp := ns, sn := [], opn := true, q := text, fuel := k, given := 0, inf := 0, tried := 0 } rfl rfl rfl rfl rfl rfl)
    refine gen1 (A := fun w9 => Stp w w9 sb L pb V V { s with hp := ns, sn := [], opn := true, q := text, fuel := k, given := 0, inf := 0, tried := 0 } Fp) (C := fun w9 => WL _ _ _ _ _ w9) T9 ?_
    clear T9 T8 hB8
    intro w9 T9
    refine wl_nil (x_then (hK16 _ _ ?_))
    clear hK16 K16
    refine forget [(0, _), (9, _)] ⟨rfl, rfl, trivial⟩ (fun e => ?_)
    refine c_seq (fun K17 hK17 => ?_)
    refine c_reg ?_ -- region 16 solve.go:100
    refine wl (ro_move rfl) ?_
    refine wl (ro_move rfl) ?_
    refine wl_call rfl en_32 (enter32 T9.m hok.wf (root := 0) (frm := 0) (cut := 0) (next := -1) (gs := []) hnp (by omega) rfl (by simp [f1])) ?_
    rintro _ w10 ⟨VF9, x, c', M9, hch9, hx9, hn9, F9, hft9⟩
    have T10 := T9.trans (V2 := (VF9, V.2.1, V.2.2)) ⟨M9, F9.mono (fun b _ h => by rcases h with h | h; exact .inl h; exact .inr (.inr (.inl h))), hn9, fun b h => .inl h, fun b h => .inl h⟩
    refine wl_nil (x_then (hK17 _ _ ?_))
    clear hK17 K17
    refine forget [] trivial (fun e => ?_)
    refine c_seq (fun K18 hK18 => ?_)
    refine c_reg ?_ -- region 17 solve.go:101
    refine wl (ro_assign rfl) ?_
    refine wl_nil (x_then (hK18 _ _ ?_))
    clear hK18 K18
    refine c_ret ?_
    refine bp_ret Tryz.results20 rfl ?_
    refine ⟨rfl, .inr ⟨rfl, code, _, rfl, T10.post ok hF, rfl, rfl, rfl, rfl, rfl, by omega, by simp only [Int.toNat_natCast]; omega, rfl, ?_⟩⟩
    rw [kidsK_eq, ← hns]
    simp only [List.append_nil] at hch9
    simp only [f1, List.nil_append] at hch9 ⊢
    refine ⟨rfl, f3, rfl, rfl, ⟨by simp [f2], by intro i c q h; simp at h, by simp [f2], rfl, .nil⟩, hok, h4, hnp, ?_, ?_, by simp, by simp, by simp only; omega, by simp, hch9, by simp [f2], by simp, ?_, by simp, by simp⟩
    · intro g hg
      obtain ⟨a1, j, a2⟩ := kidsK_mem hg
      exact ⟨argOf_lt hok.wf hnp a2, by rw [a1]; exact Nat.zero_le _⟩
    · have := kids_pw (hp := ns) (root := 0) (k := 0) (cut := 0) (next := []) (by intro g h; cases h) .nil
      simpa using this
    · simp only [f1, List.nil_append] at hft9
      exact hft9 (Fit.nil _)

end Go.Proofs.Qxb6500569aGreat
