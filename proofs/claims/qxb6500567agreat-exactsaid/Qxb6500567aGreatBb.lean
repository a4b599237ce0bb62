import Derived.Test.Qxb6500567aGreatBa
/- The real parser: leaf, join, fold. -/
namespace Go.Proofs.Qxb6500567aGreat
set_option linter.unusedVariables false
set_option linter.unusedSimpArgs false

/-- What a method leaves that does X. -/
def RP (xb : Nat) (p : List UInt8) (X : RRes) (w' : World) : Prop :=
  (∀ σ', X = .ok σ' → ∃ f' T', FB w'.heap xb 325 f' 96 ∧ PV f' p σ' T') ∧ (∀ e, X = .error e → ∃ f', FB w'.heap xb 325 f' 96 ∧ ERR f' e)

theorem RP.ok {xb : Nat} {p : List UInt8} {σ' : RS} {w' : World} {f' : Nat → Value} {T' : List RE} (h1 : FB w'.heap xb 325 f' 96) (h2 : PV f' p σ' T') {X : RRes} (hX : X = .ok σ') : RP xb p X w' :=
  ⟨fun s hs => by rw [hX] at hs; cases hs; exact ⟨_, _, h1, h2⟩, fun e he => by rw [hX] at he; cases he⟩
theorem RP.er {xb : Nat} {p : List UInt8} {e : Er} {w' : World} {f' : Nat → Value} (h1 : FB w'.heap xb 325 f' 96) (h2 : ERR f' e) {X : RRes} (hX : X = .error e) : RP xb p X w' :=
  ⟨fun s hs => by (rw [hX] at hs; cases hs), fun e' he => by rw [hX] at he; cases he; exact ⟨_, h1, h2⟩⟩

theorem ERR.pt {f : Nat → Value} {e : Er} {k : Nat} {v : Value} (h : ERR f e) (hk : k ≠ 323 ∧ k ≠ 324 ∧ k ≠ 1) : ERR (pt f k v) e := ⟨by rw [pt_ne (by omega)]; exact h.1, by rw [pt_ne (by omega)]; exact h.2.1, by obtain ⟨j, h1, h2⟩ := h.2.2; exact ⟨j, h1, by rw [pt_ne (by omega)]; exact h2⟩⟩

/-- Setting one index of the top frame. -/
theorem PV.topAlt {f : Nat → Value} {p : List UInt8} {σ : RS} {T : List RE} (h : PV f p σ T) {o : Option RE} {v : Value} (hv : IX T o v) : PV (pt f (291 + 5 * σ.K.length) v) p { σ with F := { σ.F with alt := o } } T := by
  have ht := h.top
  refine h.setTop (fun j hj => pt_ne (by omega)) ⟨by rw [pt_same]; exact hv, by rw [pt_ne (by omega)]; exact ht.cat, by rw [pt_ne (by omega)]; exact ht.atom, by rw [pt_ne (by omega)]; exact ht.num, by rw [pt_ne (by omega)]; exact ht.at'⟩
theorem PV.topCat {f : Nat → Value} {p : List UInt8} {σ : RS} {T : List RE} (h : PV f p σ T) {o : Option RE} {v : Value} (hv : IX T o v) : PV (pt f (292 + 5 * σ.K.length) v) p { σ with F := { σ.F with cat := o } } T := by
  have ht := h.top
  refine h.setTop (fun j hj => pt_ne (by omega)) ⟨by rw [pt_ne (by omega)]; exact ht.alt, by rw [pt_same]; exact hv, by rw [pt_ne (by omega)]; exact ht.atom, by rw [pt_ne (by omega)]; exact ht.num, by rw [pt_ne (by omega)]; exact ht.at'⟩
theorem PV.topAtom {f : Nat → Value} {p : List UInt8} {σ : RS} {T : List RE} (h : PV f p σ T) {o : Option RE} {v : Value} (hv : IX T o v) : PV (pt f (293 + 5 * σ.K.length) v) p { σ with F := { σ.F with atom := o } } T := by
  have ht := h.top
  refine h.setTop (fun j hj => pt_ne (by omega)) ⟨by rw [pt_ne (by omega)]; exact ht.alt, by rw [pt_ne (by omega)]; exact ht.cat, by rw [pt_same]; exact hv, by rw [pt_ne (by omega)]; exact ht.num, by rw [pt_ne (by omega)]; exact ht.at'⟩

theorem ix_new {T : List RE} {r : RE} {n : Nat} (h : T.length = n) : IX (T ++ [r]) (some r) (i64c n) := ⟨n, by simp [← h], rfl⟩

theorem wd00 (k : Nat) : Value.int .u64 0 = u64c (wd 0 k) := by rw [wd_zero]; rfl
theorem nd0 {k a b mn mx cap : Int} {lz : Bool} : Value.agg #[.int .i64 k, .int .i64 a, .int .i64 b, .int .i64 mn, .int .i64 mx, .int .i64 cap, .bool lz, .int .u64 0, .int .u64 0, .int .u64 0, .int .u64 0] = .agg [icv k, icv a, icv b, icv mn, icv mx, icv cap, .bool lz, u64c (wd 0 0), u64c (wd 0 1), u64c (wd 0 2), u64c (wd 0 3)].toArray := by
  rw [← wd00, ← wd00, ← wd00, ← wd00]

/-- A leaf becomes the last atom. -/
def leafX (σ : RS) (r : RE) : RRes := if 24 ≤ σ.n then .error (8, σ.i) else .ok { σ with n := σ.n + 1, F := { σ.F with atom := some r } }

theorem leaf127 {w : World} {xb : Nat} {f : Nat → Value} {p : List UInt8} {σ : RS} {T : List RE} {r : RE} {k : Nat} {Z : Nat} (hB : FB w.heap xb 325 f 96) (V : PV f p σ T) (hN : ND T σ.n r (ndc k (-1) (-1) 0 0 0 false Z)) :
    Ret Tryz.prog 127 [ptr xb, i64c k, setV Z] w (fun v w' => v = .tuple #[] ∧ RP xb p (leafX σ r) w' ∧ Fram (one xb) w w') := by
  have hF : Fram (one xb) w w := Fram.refl _ _
  have hd5 := V.d5
  refine ret_of Tryz.func127 rfl Tryz.ntmps127 rfl ?_
  refine c_seq (fun K1 hK1 => ?_)
  refine c_reg ?_ -- region 0 syn.go:71
  refine wl_box (cs := (setC Z)) rfl rfl (fun ab w1 hbab hA F1 => ?_)
  have hbsab := Nat.le_trans hF.size hbab
  have hnexbab : xb < ab := Nat.lt_of_lt_of_le hB.lt hbab
  replace hF := hF.thenDrew.thenN F1
  replace hB := F1.blkN hB
  refine wl_nil (x_then (hK1 _ _ ?_))
  clear hK1 K1
  refine c_piL 14 [(0, false), (1, false), (2, false), (3, false), (4, false), (5, false), (6, false), (7, false), (8, false), (10, false), (11, false), (9, true), (12, false), (13, false)] (fun w' => Blk w'.heap ab (setC Z) 87 ∧ ∃ f, FB w'.heap xb 325 f 96 ∧ f 321 = i64c σ.K.length) mixed (by kernel_rfl) rfl (by kernel_rfl) (po_bp) (⟨hA, f, hB, V.dp⟩) ?_ -- region 1 syn.go:72
  refine ql_ro rfl (fun w hS => ro_move rfl) ?_
  refine ql_ro rfl (fun w hS => ro_move rfl) ?_
  refine ql_ro rfl (fun w hS => ro_nilCheck rfl) ?_
  refine ql_ro rfl (fun w hS => ro_fieldAddr (k := 321) rfl fo_96_6) ?_
  refine ql_ro rfl (fun w ⟨_, f, hB, hd⟩ => ro_loadB rfl sc_3 hB (cel_get' (by omega) hd)) ?_
  refine ql_ro rfl (fun w hS => ro_move rfl) ?_
  refine ql_ro rfl (fun w hS => ro_move rfl) ?_
  refine ql_ro rfl (fun w hS => ro_loadAggB rfl ag_87 (hS.1) rfl rfl) ?_
  refine ql_ro rfl (fun w hS => ro_build rfl bld_89_0_1_2_7) ?_
  refine ql_ro rfl (fun w hS => ro_nilCheck rfl) ?_
  refine ql_ro rfl (fun w hS => ro_fieldAddr (k := 291) rfl fo_96_5) ?_
  refine ql_call rfl rfl en_130 (add130 (w := { w1 with drawn := w1.drawn + 1 }) (r := r) hB V hN) ?_
  rintro _ w3 ⟨⟨f', j, rfl, hB, hd', hP⟩, F3⟩
  replace hA := F3.blkO hA (by omega)
  replace hF := hF.thenDrew.trans F3
  refine ⟨⟨hA, f', hB, hd'⟩, ?_⟩
  refine ql_ro rfl (fun w hS => ro_indexAddrA (et := 93) (k := 5) rfl rfl ar_94 (rfl) ((by omega : σ.K.length < 6))) ?_
  refine ql_ro rfl (fun w hS => ro_fieldAddr (k := 2) rfl fo_93_2) ?_
  refine ql_put rfl rfl rfl rfl sz_3 hB ((cel_lt (by omega))) ((cel_put (293 + 5 * σ.K.length) (by omega))) (fun w2 hB F2 => ?_)
  replace hF := hF.thenDrew.thenO F2 (by first | exact .inr (by omega) | exact .inl rfl | exact .inl (by assumption))
  replace hA := F2.blkO hA (by omega)
  refine ?_
  refine bp_end Tryz.results127 rfl ?_
  refine ⟨rfl, ?_, hF⟩
  rcases hP with ⟨h24, rfl, V'⟩ | ⟨h24, rfl, E'⟩
  · exact RP.ok hB (V'.topAtom (ix_new V.tl)) (by unfold leafX; rw [if_neg (by omega)])
  · exact RP.er hB (E'.pt (by omega)) (by unfold leafX; rw [if_pos h24])

theorem join95 {w : World} {xb : Nat} {f : Nat → Value} {p : List UInt8} {σ : RS} {T : List RE} (hB : FB w.heap xb 325 f 96) (V : PV f p σ T) :
    Ret Tryz.prog 95 [ptr xb] w (fun v w' => v = .tuple #[] ∧ RP xb p (joinR σ) w' ∧ Fram (one xb) w w') := by
  have hF : Fram (one xb) w w := Fram.refl _ _
  have hd5 := V.d5
  have hat := V.top.atom
  have hct := V.top.cat
  unfold joinR
  cases hA : σ.F.atom with
  | none =>
    rw [hA] at hat
    have hct' : ∃ j : Int, f (292 + 5 * σ.K.length) = icv j := by
      cases hC : σ.F.cat with
      | none => rw [hC] at hct; exact ⟨_, hct⟩
      | some c => rw [hC] at hct; obtain ⟨j, _, hj⟩ := hct; exact ⟨_, hj⟩
    obtain ⟨jc, hjc⟩ := hct'
    refine ret_of Tryz.func95 rfl Tryz.ntmps95 rfl ?_
    refine c_seq (fun K1 hK1 => ?_)
    refine c_reg ?_ -- region 0 syn.go:77
    refine wl (ro_move rfl) ?_
    refine wl (ro_nilCheck rfl) ?_
    refine wl (ro_fieldAddr (k := 321) rfl fo_96_6) ?_
    refine wl (ro_loadB rfl sc_3 (hB) (cel_get' (by omega) V.dp)) ?_
    refine wl (ro_assign rfl) ?_
    refine wl_nil (x_then (hK1 _ _ ?_))
    clear hK1 K1
    refine forget [(0, _), (2, _)] ⟨rfl, rfl, trivial⟩ (fun e => ?_)
    refine c_seq (fun K2 hK2 => ?_)
    refine c_reg ?_ -- region 1 syn.go:78
    refine wl (ro_move rfl) ?_
    refine wl (ro_move rfl) ?_
    refine wl (ro_nilCheck rfl) ?_
    refine wl (ro_fieldAddr (k := 291) rfl fo_96_5) ?_
    refine wl (ro_indexAddrA (et := 93) (k := 5) rfl rfl ar_94 (rfl) ((by omega : σ.K.length < 6))) ?_
    refine wl (ro_fieldAddr (k := 2) rfl fo_93_2) ?_
    refine wl (ro_loadB rfl sc_3 (hB) ((cel_at (by omega) (by omega) hat))) ?_
    refine wl (ro_assign rfl) ?_
    refine wl_nil (x_then (hK2 _ _ ?_))
    clear hK2 K2
    refine forget [(0, _), (2, _), (3, _)] ⟨rfl, rfl, rfl, trivial⟩ (fun e => ?_)
    refine c_seq (fun K3 hK3 => ?_)
    refine c_reg ?_ -- region 2 syn.go:79
    refine wl (ro_move rfl) ?_
    refine wl (ro_move rfl) ?_
    refine wl (ro_nilCheck rfl) ?_
    refine wl (ro_fieldAddr (k := 291) rfl fo_96_5) ?_
    refine wl (ro_indexAddrA (et := 93) (k := 5) rfl rfl ar_94 (rfl) ((by omega : σ.K.length < 6))) ?_
    refine wl (ro_fieldAddr (k := 1) rfl fo_93_1) ?_
    refine wl (ro_loadB rfl sc_3 (hB) ((cel_at (by omega) (by omega) hjc))) ?_
    refine wl (ro_assign rfl) ?_
    refine wl_nil (x_then (hK3 _ _ ?_))
    clear hK3 K3
    refine c_seq (fun K4 hK4 => ?_)
    refine c_seq (fun K5 hK5 => ?_)
    refine c_reg ?_ -- region 3 syn.go:80
    refine wl (ro_move rfl) ?_
    refine wl (ro_cmp rfl rfl rfl) ?_
    refine wl_nil (x_then (hK5 _ _ ?_))
    clear hK5 K5
    refine wc_condT rfl ?_
    refine c_ret (x_thenR ?_)
    refine bp_ret Tryz.results95 rfl ?_
    exact ⟨rfl, RP.ok hB V rfl, hF⟩
  | some a =>
    rw [hA] at hat
    obtain ⟨ja, hja, hfa⟩ := hat
    have hjn : ja < σ.n := by have := (List.getElem?_eq_some_iff.1 hja).1; have := V.tl; omega
    have V1 : PV (pt f (293 + 5 * σ.K.length) (icv (-1))) p { σ with F := { σ.F with atom := none } } T := V.topAtom rfl
    have hn24 := V.n24
    cases hC : σ.F.cat with
    | none =>
      rw [hC] at hct
      refine ret_of Tryz.func95 rfl Tryz.ntmps95 rfl ?_
      refine c_seq (fun K1 hK1 => ?_)
      refine c_reg ?_ -- region 0 syn.go:77
      refine wl (ro_move rfl) ?_
      refine wl (ro_nilCheck rfl) ?_
      refine wl (ro_fieldAddr (k := 321) rfl fo_96_6) ?_
      refine wl (ro_loadB rfl sc_3 (hB) (cel_get' (by omega) V.dp)) ?_
      refine wl (ro_assign rfl) ?_
      refine wl_nil (x_then (hK1 _ _ ?_))
      clear hK1 K1
      refine forget [(0, _), (2, _)] ⟨rfl, rfl, trivial⟩ (fun e => ?_)
      refine c_seq (fun K2 hK2 => ?_)
      refine c_reg ?_ -- region 1 syn.go:78
      refine wl (ro_move rfl) ?_
      refine wl (ro_move rfl) ?_
      refine wl (ro_nilCheck rfl) ?_
      refine wl (ro_fieldAddr (k := 291) rfl fo_96_5) ?_
      refine wl (ro_indexAddrA (et := 93) (k := 5) rfl rfl ar_94 (rfl) ((by omega : σ.K.length < 6))) ?_
      refine wl (ro_fieldAddr (k := 2) rfl fo_93_2) ?_
      refine wl (ro_loadB rfl sc_3 (hB) ((cel_at (by omega) (by omega) hfa))) ?_
      refine wl (ro_assign rfl) ?_
      refine wl_nil (x_then (hK2 _ _ ?_))
      clear hK2 K2
      refine forget [(0, _), (2, _), (3, _)] ⟨rfl, rfl, rfl, trivial⟩ (fun e => ?_)
      refine c_seq (fun K3 hK3 => ?_)
      refine c_reg ?_ -- region 2 syn.go:79
      refine wl (ro_move rfl) ?_
      refine wl (ro_move rfl) ?_
      refine wl (ro_nilCheck rfl) ?_
      refine wl (ro_fieldAddr (k := 291) rfl fo_96_5) ?_
      refine wl (ro_indexAddrA (et := 93) (k := 5) rfl rfl ar_94 (rfl) ((by omega : σ.K.length < 6))) ?_
      refine wl (ro_fieldAddr (k := 1) rfl fo_93_1) ?_
      refine wl (ro_loadB rfl sc_3 (hB) ((cel_at (by omega) (by omega) hct))) ?_
      refine wl (ro_assign rfl) ?_
      refine wl_nil (x_then (hK3 _ _ ?_))
      clear hK3 K3
      refine c_seq (fun K4 hK4 => ?_)
      refine c_seq (fun K5 hK5 => ?_)
      refine c_reg ?_ -- region 3 syn.go:80
      refine wl (ro_move rfl) ?_
      refine wl (ro_cmp (r := false) rfl rfl (congrArg some (decide_eq_false (by omega)))) ?_
      refine wl_nil (x_then (hK5 _ _ ?_))
      clear hK5 K5
      refine wc_condF rfl ?_
      refine c_skip (x_then (hK4 _ _ ?_))
      clear hK4 K4
      refine forget [(0, _), (2, _), (3, _), (4, _)] ⟨rfl, rfl, rfl, rfl, trivial⟩ (fun e => ?_)
      refine c_seq (fun K6 hK6 => ?_)
      refine c_reg ?_ -- region 4 syn.go:83
      refine wl (ro_move rfl) ?_
      refine wl (ro_move rfl) ?_
      refine wl (ro_nilCheck rfl) ?_
      refine wl (ro_fieldAddr (k := 291) rfl fo_96_5) ?_
      refine wl (ro_indexAddrA (et := 93) (k := 5) rfl rfl ar_94 (rfl) ((by omega : σ.K.length < 6))) ?_
      refine wl (ro_fieldAddr (k := 2) rfl fo_93_2) ?_
      refine wl_put rfl rfl rfl sz_3 hB ((cel_lt (by omega))) ((cel_put (293 + 5 * σ.K.length) (by omega))) (fun w1 hB F1 => ?_)
      replace hF := hF.thenDrew.thenO F1 (by first | exact .inr (by omega) | exact .inl rfl | exact .inl (by assumption))
      refine wl_nil (x_then (hK6 _ _ ?_))
      clear hK6 K6
      refine c_seq (fun K7 hK7 => ?_)
      refine c_seq (fun K8 hK8 => ?_)
      refine c_reg ?_ -- region 5 syn.go:84
      refine wl (ro_move rfl) ?_
      refine wl (ro_cmp rfl rfl rfl) ?_
      refine wl_nil (x_then (hK8 _ _ ?_))
      clear hK8 K8
      refine wc_condT rfl ?_
      refine c_seq (fun K9 hK9 => ?_)
      refine c_reg ?_ -- region 6 syn.go:85
      refine wl (ro_move rfl) ?_
      refine wl (ro_move rfl) ?_
      refine wl (ro_move rfl) ?_
      refine wl (ro_nilCheck rfl) ?_
      refine wl (ro_fieldAddr (k := 291) rfl fo_96_5) ?_
      refine wl (ro_indexAddrA (et := 93) (k := 5) rfl rfl ar_94 (rfl) ((by omega : σ.K.length < 6))) ?_
      refine wl (ro_fieldAddr (k := 1) rfl fo_93_1) ?_
      refine wl_put rfl rfl rfl sz_3 hB ((cel_lt (by omega))) ((cel_put (292 + 5 * σ.K.length) (by omega))) (fun w2 hB F2 => ?_)
      replace hF := hF.thenDrew.thenO F2 (by first | exact .inr (by omega) | exact .inl rfl | exact .inl (by assumption))
      refine wl_nil (x_then (hK9 _ _ ?_))
      clear hK9 K9
      refine c_ret (x_thenR ?_)
      refine bp_ret Tryz.results95 rfl ?_
      exact ⟨rfl, RP.ok hB (V1.topCat (o := some a) ⟨ja, hja, rfl⟩) rfl, hF⟩
    | some c =>
      rw [hC] at hct
      obtain ⟨jc, hjc, hfc⟩ := hct
      have hcn : jc < σ.n := by have := (List.getElem?_eq_some_iff.1 hjc).1; have := V.tl; omega
      have hN : ND T σ.n (.cat c a) (ndc 4 jc ja 0 0 0 false 0) := ⟨jc, ja, hcn, hjn, hjc, hja, rfl⟩
      refine ret_of Tryz.func95 rfl Tryz.ntmps95 rfl ?_
      refine c_seq (fun K1 hK1 => ?_)
      refine c_reg ?_ -- region 0 syn.go:77
      refine wl (ro_move rfl) ?_
      refine wl (ro_nilCheck rfl) ?_
      refine wl (ro_fieldAddr (k := 321) rfl fo_96_6) ?_
      refine wl (ro_loadB rfl sc_3 (hB) (cel_get' (by omega) V.dp)) ?_
      refine wl (ro_assign rfl) ?_
      refine wl_nil (x_then (hK1 _ _ ?_))
      clear hK1 K1
      refine forget [(0, _), (2, _)] ⟨rfl, rfl, trivial⟩ (fun e => ?_)
      refine c_seq (fun K2 hK2 => ?_)
      refine c_reg ?_ -- region 1 syn.go:78
      refine wl (ro_move rfl) ?_
      refine wl (ro_move rfl) ?_
      refine wl (ro_nilCheck rfl) ?_
      refine wl (ro_fieldAddr (k := 291) rfl fo_96_5) ?_
      refine wl (ro_indexAddrA (et := 93) (k := 5) rfl rfl ar_94 (rfl) ((by omega : σ.K.length < 6))) ?_
      refine wl (ro_fieldAddr (k := 2) rfl fo_93_2) ?_
      refine wl (ro_loadB rfl sc_3 (hB) ((cel_at (by omega) (by omega) hfa))) ?_
      refine wl (ro_assign rfl) ?_
      refine wl_nil (x_then (hK2 _ _ ?_))
      clear hK2 K2
      refine forget [(0, _), (2, _), (3, _)] ⟨rfl, rfl, rfl, trivial⟩ (fun e => ?_)
      refine c_seq (fun K3 hK3 => ?_)
      refine c_reg ?_ -- region 2 syn.go:79
      refine wl (ro_move rfl) ?_
      refine wl (ro_move rfl) ?_
      refine wl (ro_nilCheck rfl) ?_
      refine wl (ro_fieldAddr (k := 291) rfl fo_96_5) ?_
      refine wl (ro_indexAddrA (et := 93) (k := 5) rfl rfl ar_94 (rfl) ((by omega : σ.K.length < 6))) ?_
      refine wl (ro_fieldAddr (k := 1) rfl fo_93_1) ?_
      refine wl (ro_loadB rfl sc_3 (hB) ((cel_at (by omega) (by omega) hfc))) ?_
      refine wl (ro_assign rfl) ?_
      refine wl_nil (x_then (hK3 _ _ ?_))
      clear hK3 K3
      refine c_seq (fun K4 hK4 => ?_)
      refine c_seq (fun K5 hK5 => ?_)
      refine c_reg ?_ -- region 3 syn.go:80
      refine wl (ro_move rfl) ?_
      refine wl (ro_cmp (r := false) rfl rfl (congrArg some (decide_eq_false (by omega)))) ?_
      refine wl_nil (x_then (hK5 _ _ ?_))
      clear hK5 K5
      refine wc_condF rfl ?_
      refine c_skip (x_then (hK4 _ _ ?_))
      clear hK4 K4
      refine forget [(0, _), (2, _), (3, _), (4, _)] ⟨rfl, rfl, rfl, rfl, trivial⟩ (fun e => ?_)
      refine c_seq (fun K6 hK6 => ?_)
      refine c_reg ?_ -- region 4 syn.go:83
      refine wl (ro_move rfl) ?_
      refine wl (ro_move rfl) ?_
      refine wl (ro_nilCheck rfl) ?_
      refine wl (ro_fieldAddr (k := 291) rfl fo_96_5) ?_
      refine wl (ro_indexAddrA (et := 93) (k := 5) rfl rfl ar_94 (rfl) ((by omega : σ.K.length < 6))) ?_
      refine wl (ro_fieldAddr (k := 2) rfl fo_93_2) ?_
      refine wl_put rfl rfl rfl sz_3 hB ((cel_lt (by omega))) ((cel_put (293 + 5 * σ.K.length) (by omega))) (fun w1 hB F1 => ?_)
      replace hF := hF.thenDrew.thenO F1 (by first | exact .inr (by omega) | exact .inl rfl | exact .inl (by assumption))
      refine wl_nil (x_then (hK6 _ _ ?_))
      clear hK6 K6
      refine c_seq (fun K7 hK7 => ?_)
      refine c_seq (fun K8 hK8 => ?_)
      refine c_reg ?_ -- region 5 syn.go:84
      refine wl (ro_move rfl) ?_
      refine wl (ro_cmp (r := false) rfl rfl (congrArg some (decide_eq_false (by omega)))) ?_
      refine wl_nil (x_then (hK8 _ _ ?_))
      clear hK8 K8
      refine wc_condF rfl ?_
      refine c_skip (x_then (hK7 _ _ ?_))
      clear hK7 K7
      refine c_piL 11 [(0, false), (1, false), (2, false), (3, false), (4, false), (5, false), (7, false), (8, false), (6, true), (9, false), (10, false)] (fun _ => True) mixed (by kernel_rfl) rfl (by kernel_rfl) (po_bp) (trivial) ?_ -- region 7 syn.go:88
      refine ql_ro rfl (fun w hS => ro_move rfl) ?_
      refine ql_ro rfl (fun w hS => ro_move rfl) ?_
      refine ql_ro rfl (fun w hS => ro_move rfl) ?_
      refine ql_ro rfl (fun w hS => ro_move rfl) ?_
      refine ql_ro rfl (fun w hS => ro_move rfl) ?_
      refine ql_ro rfl (fun w hS => ro_build rfl bld_89_0_1_2) ?_
      rw [nd0]
      refine ql_ro rfl (fun w hS => ro_nilCheck rfl) ?_
      refine ql_ro rfl (fun w hS => ro_fieldAddr (k := 291) rfl fo_96_5) ?_
      refine ql_call rfl rfl en_130 (add130 (w := { w1 with drawn := w1.drawn + 1 }) hB V1 hN) ?_
      rintro _ w3 ⟨⟨f', j, rfl, hB, hd', hP⟩, F3⟩
      replace hF := hF.thenDrew.trans F3
      refine ⟨trivial, ?_⟩
      refine ql_ro rfl (fun w hS => ro_indexAddrA (et := 93) (k := 5) rfl rfl ar_94 (rfl) ((by omega : σ.K.length < 6))) ?_
      refine ql_ro rfl (fun w hS => ro_fieldAddr (k := 1) rfl fo_93_1) ?_
      refine ql_put rfl rfl rfl rfl sz_3 hB ((cel_lt (by omega))) ((cel_put (292 + 5 * σ.K.length) (by omega))) (fun w2 hB F2 => ?_)
      replace hF := hF.thenDrew.thenO F2 (by first | exact .inr (by omega) | exact .inl rfl | exact .inl (by assumption))
      refine ?_
      refine bp_end Tryz.results95 rfl ?_
      refine ⟨rfl, ?_, hF⟩
      rcases hP with ⟨h24, rfl, V'⟩ | ⟨h24, rfl, E'⟩
      · exact RP.ok hB (V'.topCat (ix_new V.tl)) (if_neg (show ¬ 24 ≤ σ.n from Nat.not_le.2 h24))
      · exact RP.er hB (E'.pt (by omega)) (if_pos (show 24 ≤ σ.n from h24))

theorem fold96 {w : World} {xb : Nat} {f : Nat → Value} {p : List UInt8} {σ : RS} {T : List RE} (hB : FB w.heap xb 325 f 96) (V : PV f p σ T) :
    Ret Tryz.prog 96 [ptr xb] w (fun v w' => v = .tuple #[] ∧ RP xb p (foldR σ) w' ∧ Fram (one xb) w w') := by
  have hF : Fram (one xb) w w := Fram.refl _ _
  have hd5 := V.d5
  have hct := V.top.cat
  have hlt := V.top.alt
  have hn24 := V.n24
  cases hC : σ.F.cat with
  | none =>
    rw [hC] at hct
    have hfc : f (292 + 5 * σ.K.length) = icv (-1) := hct
    have hN : ND T σ.n .emp (ndc 0 (-1) (-1) 0 0 0 false 0) := rfl
    cases hL : σ.F.alt with
    | none =>
      refine ret_of Tryz.func96 rfl Tryz.ntmps96 rfl ?_
      refine c_seq (fun K1 hK1 => ?_)
      refine c_reg ?_ -- region 0 syn.go:93
      refine wl (ro_move rfl) ?_
      refine wl (ro_nilCheck rfl) ?_
      refine wl (ro_fieldAddr (k := 321) rfl fo_96_6) ?_
      refine wl (ro_loadB rfl sc_3 (hB) (cel_get' (by omega) V.dp)) ?_
      refine wl (ro_assign rfl) ?_
      refine wl_nil (x_then (hK1 _ _ ?_))
      clear hK1 K1
      refine forget [(0, _), (2, _)] ⟨rfl, rfl, trivial⟩ (fun e => ?_)
      refine c_seq (fun K2 hK2 => ?_)
      refine c_reg ?_ -- region 1 syn.go:94
      refine wl (ro_move rfl) ?_
      refine wl (ro_move rfl) ?_
      refine wl (ro_nilCheck rfl) ?_
      refine wl (ro_fieldAddr (k := 291) rfl fo_96_5) ?_
      refine wl (ro_indexAddrA (et := 93) (k := 5) rfl rfl ar_94 (rfl) ((by omega : σ.K.length < 6))) ?_
      refine wl (ro_fieldAddr (k := 1) rfl fo_93_1) ?_
      refine wl (ro_loadB rfl sc_3 (hB) ((cel_at (by omega) (by omega) hfc))) ?_
      refine wl (ro_assign rfl) ?_
      refine wl_nil (x_then (hK2 _ _ ?_))
      clear hK2 K2
      refine c_seq (fun K3 hK3 => ?_)
      refine c_seq (fun K4 hK4 => ?_)
      refine c_reg ?_ -- region 2 syn.go:95
      refine wl (ro_move rfl) ?_
      refine wl (ro_cmp rfl rfl rfl) ?_
      refine wl_nil (x_then (hK4 _ _ ?_))
      clear hK4 K4
      refine wc_condT rfl ?_
      refine c_seq (fun K5 hK5 => ?_)
      refine c_reg ?_ -- region 3 syn.go:96
      refine wl (ro_move rfl) ?_
      refine wl (ro_build rfl bld_89_0_1_2) ?_
      rw [nd0]
      refine wl_call rfl en_130 (add130 hB V hN) ?_
      rintro _ w3 ⟨⟨f', j, rfl, hB, hd', hP⟩, F3⟩
      replace hF := hF.trans F3
      refine wl (ro_assign rfl) ?_
      refine wl_nil (x_then (hK5 _ _ ?_))
      clear hK5 K5
      refine forget [(0, _), (2, _), (3, _)] ⟨rfl, rfl, rfl, trivial⟩ (fun e => ?_)
      refine c_seq (fun K6 hK6 => ?_)
      refine c_reg ?_ -- region 4 syn.go:97
      refine wl (ro_move rfl) ?_
      refine wl (ro_cmp rfl rfl rfl) ?_
      refine wl_nil (x_then (hK6 _ _ ?_))
      clear hK6 K6
      refine wc_cond rfl (fun hc22 => ?_) (fun hc22 => ?_)
      · try simp only [decide_eq_true_eq, decide_eq_false_iff_not, Bool.not_eq_true', Bool.not_eq_false', Bool.not_eq_eq_eq_not, Bool.not_true, Bool.not_false, beq_iff_eq, bne_iff_ne, ne_eq, beq_eq_false_iff_ne, bne_eq_false_iff_eq, gt_iff_lt, ge_iff_le, Int.not_lt, Int.not_le] at hc22
        rcases hP with ⟨h24, rfl, V'⟩ | ⟨h24, rfl, E'⟩
        · omega
        refine c_ret (x_thenR ?_)
        refine bp_ret Tryz.results96 rfl ?_
        exact ⟨rfl, RP.er hB E' (by unfold foldR; rw [hC]; exact if_pos h24), hF⟩
      · try simp only [decide_eq_true_eq, decide_eq_false_iff_not, Bool.not_eq_true', Bool.not_eq_false', Bool.not_eq_eq_eq_not, Bool.not_true, Bool.not_false, beq_iff_eq, bne_iff_ne, ne_eq, beq_eq_false_iff_ne, bne_eq_false_iff_eq, gt_iff_lt, ge_iff_le, Int.not_lt, Int.not_le] at hc22
        obtain ⟨h24, rfl, V'⟩ : σ.n < 24 ∧ j = σ.n ∧ PV f' p { σ with n := σ.n + 1 } (T ++ [RE.emp]) := by
          rcases hP with h | ⟨h24, rfl, E'⟩
          · exact h
          · omega
        have hl' := V'.top.alt
        have hjc : (T ++ [RE.emp])[σ.n]? = some RE.emp := by simp [← V.tl]
        have V3 : PV (pt f' (292 + 5 * σ.K.length) (icv (-1))) p { σ with n := σ.n + 1, F := { σ.F with cat := none } } (T ++ [RE.emp]) := V'.topCat rfl
        rw [hL] at hl'
        refine c_skip (x_then (hK3 _ _ ?_))
        clear hK3 K3
        refine forget [(0, _), (2, _), (3, _)] ⟨rfl, rfl, rfl, trivial⟩ (fun e => ?_)
        refine c_seq (fun K7 hK7 => ?_)
        refine c_reg ?_ -- region 5 syn.go:101
        refine wl (ro_move rfl) ?_
        refine wl (ro_move rfl) ?_
        refine wl (ro_nilCheck rfl) ?_
        refine wl (ro_fieldAddr (k := 291) rfl fo_96_5) ?_
        refine wl (ro_indexAddrA (et := 93) (k := 5) rfl rfl ar_94 (rfl) ((by omega : σ.K.length < 6))) ?_
        refine wl (ro_fieldAddr (k := 1) rfl fo_93_1) ?_
        refine wl_put rfl rfl rfl sz_3 hB ((cel_lt (by omega))) ((cel_put (292 + 5 * σ.K.length) (by omega))) (fun w1 hB F1 => ?_)
        replace hF := hF.thenDrew.thenO F1 (by first | exact .inr (by omega) | exact .inl rfl | exact .inl (by assumption))
        refine wl_nil (x_then (hK7 _ _ ?_))
        clear hK7 K7
        refine forget [(0, _), (2, _), (3, _)] ⟨rfl, rfl, rfl, trivial⟩ (fun e => ?_)
        refine c_seq (fun K8 hK8 => ?_)
        refine c_reg ?_ -- region 6 syn.go:102
        refine wl (ro_move rfl) ?_
        refine wl (ro_move rfl) ?_
        refine wl (ro_nilCheck rfl) ?_
        refine wl (ro_fieldAddr (k := 291) rfl fo_96_5) ?_
        refine wl (ro_indexAddrA (et := 93) (k := 5) rfl rfl ar_94 (rfl) ((by omega : σ.K.length < 6))) ?_
        refine wl (ro_fieldAddr (k := 0) rfl fo_93_0) ?_
        refine wl (ro_loadB rfl sc_3 (hB) ((cel_at (by omega) (by omega : _ = 291 + 5 * σ.K.length) (Eq.trans (pt_ne (by omega)) hl')))) ?_
        refine wl (ro_assign rfl) ?_
        refine wl_nil (x_then (hK8 _ _ ?_))
        clear hK8 K8
        refine c_seq (fun K9 hK9 => ?_)
        refine c_seq (fun K10 hK10 => ?_)
        refine c_reg ?_ -- region 7 syn.go:103
        refine wl (ro_move rfl) ?_
        refine wl (ro_cmp rfl rfl rfl) ?_
        refine wl_nil (x_then (hK10 _ _ ?_))
        clear hK10 K10
        refine wc_condT rfl ?_
        refine c_seq (fun K11 hK11 => ?_)
        refine c_reg ?_ -- region 8 syn.go:104
        refine wl (ro_move rfl) ?_
        refine wl (ro_move rfl) ?_
        refine wl (ro_move rfl) ?_
        refine wl (ro_nilCheck rfl) ?_
        refine wl (ro_fieldAddr (k := 291) rfl fo_96_5) ?_
        refine wl (ro_indexAddrA (et := 93) (k := 5) rfl rfl ar_94 (rfl) ((by omega : σ.K.length < 6))) ?_
        refine wl (ro_fieldAddr (k := 0) rfl fo_93_0) ?_
        refine wl_put rfl rfl rfl sz_3 hB ((cel_lt (by omega))) ((cel_put (291 + 5 * σ.K.length) (by omega))) (fun w2 hB F2 => ?_)
        replace hF := hF.thenDrew.thenO F2 (by first | exact .inr (by omega) | exact .inl rfl | exact .inl (by assumption))
        refine wl_nil (x_then (hK11 _ _ ?_))
        clear hK11 K11
        refine c_ret (x_thenR ?_)
        refine bp_ret Tryz.results96 rfl ?_
        exact ⟨rfl, RP.ok hB (V3.topAlt (o := some RE.emp) ⟨σ.n, hjc, rfl⟩) (by unfold foldR; rw [hC]; simp only; rw [if_neg (show ¬ 24 ≤ σ.n by omega)]; unfold fold2; simp only [hL]), hF⟩
    | some a =>
      refine ret_of Tryz.func96 rfl Tryz.ntmps96 rfl ?_
      refine c_seq (fun K1 hK1 => ?_)
      refine c_reg ?_ -- region 0 syn.go:93
      refine wl (ro_move rfl) ?_
      refine wl (ro_nilCheck rfl) ?_
      refine wl (ro_fieldAddr (k := 321) rfl fo_96_6) ?_
      refine wl (ro_loadB rfl sc_3 (hB) (cel_get' (by omega) V.dp)) ?_
      refine wl (ro_assign rfl) ?_
      refine wl_nil (x_then (hK1 _ _ ?_))
      clear hK1 K1
      refine forget [(0, _), (2, _)] ⟨rfl, rfl, trivial⟩ (fun e => ?_)
      refine c_seq (fun K2 hK2 => ?_)
      refine c_reg ?_ -- region 1 syn.go:94
      refine wl (ro_move rfl) ?_
      refine wl (ro_move rfl) ?_
      refine wl (ro_nilCheck rfl) ?_
      refine wl (ro_fieldAddr (k := 291) rfl fo_96_5) ?_
      refine wl (ro_indexAddrA (et := 93) (k := 5) rfl rfl ar_94 (rfl) ((by omega : σ.K.length < 6))) ?_
      refine wl (ro_fieldAddr (k := 1) rfl fo_93_1) ?_
      refine wl (ro_loadB rfl sc_3 (hB) ((cel_at (by omega) (by omega) hfc))) ?_
      refine wl (ro_assign rfl) ?_
      refine wl_nil (x_then (hK2 _ _ ?_))
      clear hK2 K2
      refine c_seq (fun K3 hK3 => ?_)
      refine c_seq (fun K4 hK4 => ?_)
      refine c_reg ?_ -- region 2 syn.go:95
      refine wl (ro_move rfl) ?_
      refine wl (ro_cmp rfl rfl rfl) ?_
      refine wl_nil (x_then (hK4 _ _ ?_))
      clear hK4 K4
      refine wc_condT rfl ?_
      refine c_seq (fun K5 hK5 => ?_)
      refine c_reg ?_ -- region 3 syn.go:96
      refine wl (ro_move rfl) ?_
      refine wl (ro_build rfl bld_89_0_1_2) ?_
      rw [nd0]
      refine wl_call rfl en_130 (add130 hB V hN) ?_
      rintro _ w3 ⟨⟨f', j, rfl, hB, hd', hP⟩, F3⟩
      replace hF := hF.trans F3
      refine wl (ro_assign rfl) ?_
      refine wl_nil (x_then (hK5 _ _ ?_))
      clear hK5 K5
      refine forget [(0, _), (2, _), (3, _)] ⟨rfl, rfl, rfl, trivial⟩ (fun e => ?_)
      refine c_seq (fun K6 hK6 => ?_)
      refine c_reg ?_ -- region 4 syn.go:97
      refine wl (ro_move rfl) ?_
      refine wl (ro_cmp rfl rfl rfl) ?_
      refine wl_nil (x_then (hK6 _ _ ?_))
      clear hK6 K6
      refine wc_cond rfl (fun hc22 => ?_) (fun hc22 => ?_)
      · try simp only [decide_eq_true_eq, decide_eq_false_iff_not, Bool.not_eq_true', Bool.not_eq_false', Bool.not_eq_eq_eq_not, Bool.not_true, Bool.not_false, beq_iff_eq, bne_iff_ne, ne_eq, beq_eq_false_iff_ne, bne_eq_false_iff_eq, gt_iff_lt, ge_iff_le, Int.not_lt, Int.not_le] at hc22
        rcases hP with ⟨h24, rfl, V'⟩ | ⟨h24, rfl, E'⟩
        · omega
        refine c_ret (x_thenR ?_)
        refine bp_ret Tryz.results96 rfl ?_
        exact ⟨rfl, RP.er hB E' (by unfold foldR; rw [hC]; exact if_pos h24), hF⟩
      · try simp only [decide_eq_true_eq, decide_eq_false_iff_not, Bool.not_eq_true', Bool.not_eq_false', Bool.not_eq_eq_eq_not, Bool.not_true, Bool.not_false, beq_iff_eq, bne_iff_ne, ne_eq, beq_eq_false_iff_ne, bne_eq_false_iff_eq, gt_iff_lt, ge_iff_le, Int.not_lt, Int.not_le] at hc22
        obtain ⟨h24, rfl, V'⟩ : σ.n < 24 ∧ j = σ.n ∧ PV f' p { σ with n := σ.n + 1 } (T ++ [RE.emp]) := by
          rcases hP with h | ⟨h24, rfl, E'⟩
          · exact h
          · omega
        have hl' := V'.top.alt
        have hjc : (T ++ [RE.emp])[σ.n]? = some RE.emp := by simp [← V.tl]
        have V3 : PV (pt f' (292 + 5 * σ.K.length) (icv (-1))) p { σ with n := σ.n + 1, F := { σ.F with cat := none } } (T ++ [RE.emp]) := V'.topCat rfl
        rw [hL] at hl'
        obtain ⟨ja, hja, hfa⟩ := hl'
        have hjn : ja < σ.n + 1 := by have h1 := (List.getElem?_eq_some_iff.1 hja).1; have h2 : (T ++ [RE.emp]).length = σ.n + 1 := V'.tl; omega
        refine c_skip (x_then (hK3 _ _ ?_))
        clear hK3 K3
        refine forget [(0, _), (2, _), (3, _)] ⟨rfl, rfl, rfl, trivial⟩ (fun e => ?_)
        refine c_seq (fun K7 hK7 => ?_)
        refine c_reg ?_ -- region 5 syn.go:101
        refine wl (ro_move rfl) ?_
        refine wl (ro_move rfl) ?_
        refine wl (ro_nilCheck rfl) ?_
        refine wl (ro_fieldAddr (k := 291) rfl fo_96_5) ?_
        refine wl (ro_indexAddrA (et := 93) (k := 5) rfl rfl ar_94 (rfl) ((by omega : σ.K.length < 6))) ?_
        refine wl (ro_fieldAddr (k := 1) rfl fo_93_1) ?_
        refine wl_put rfl rfl rfl sz_3 hB ((cel_lt (by omega))) ((cel_put (292 + 5 * σ.K.length) (by omega))) (fun w1 hB F1 => ?_)
        replace hF := hF.thenDrew.thenO F1 (by first | exact .inr (by omega) | exact .inl rfl | exact .inl (by assumption))
        refine wl_nil (x_then (hK7 _ _ ?_))
        clear hK7 K7
        refine forget [(0, _), (2, _), (3, _)] ⟨rfl, rfl, rfl, trivial⟩ (fun e => ?_)
        refine c_seq (fun K8 hK8 => ?_)
        refine c_reg ?_ -- region 6 syn.go:102
        refine wl (ro_move rfl) ?_
        refine wl (ro_move rfl) ?_
        refine wl (ro_nilCheck rfl) ?_
        refine wl (ro_fieldAddr (k := 291) rfl fo_96_5) ?_
        refine wl (ro_indexAddrA (et := 93) (k := 5) rfl rfl ar_94 (rfl) ((by omega : σ.K.length < 6))) ?_
        refine wl (ro_fieldAddr (k := 0) rfl fo_93_0) ?_
        refine wl (ro_loadB rfl sc_3 (hB) ((cel_at (by omega) (by omega : _ = 291 + 5 * σ.K.length) (Eq.trans (pt_ne (by omega)) hfa)))) ?_
        refine wl (ro_assign rfl) ?_
        refine wl_nil (x_then (hK8 _ _ ?_))
        clear hK8 K8
        refine c_seq (fun K9 hK9 => ?_)
        refine c_seq (fun K10 hK10 => ?_)
        refine c_reg ?_ -- region 7 syn.go:103
        refine wl (ro_move rfl) ?_
        refine wl (ro_cmp (r := false) rfl rfl (congrArg some (decide_eq_false (by omega)))) ?_
        refine wl_nil (x_then (hK10 _ _ ?_))
        clear hK10 K10
        refine wc_condF rfl ?_
        refine c_skip (x_then (hK9 _ _ ?_))
        clear hK9 K9
        refine c_piL 11 [(0, false), (1, false), (2, false), (3, false), (4, false), (5, false), (7, false), (8, false), (6, true), (9, false), (10, false)] (fun _ => True) mixed (by kernel_rfl) rfl (by kernel_rfl) (po_bp) (trivial) ?_ -- region 9 syn.go:107
        refine ql_ro rfl (fun w hS => ro_move rfl) ?_
        refine ql_ro rfl (fun w hS => ro_move rfl) ?_
        refine ql_ro rfl (fun w hS => ro_move rfl) ?_
        refine ql_ro rfl (fun w hS => ro_move rfl) ?_
        refine ql_ro rfl (fun w hS => ro_move rfl) ?_
        have hN3 : ND (T ++ [RE.emp]) (σ.n + 1) (.alt a RE.emp) (ndc 5 ja σ.n 0 0 0 false 0) := ⟨ja, σ.n, hjn, by omega, hja, hjc, rfl⟩
        refine ql_ro rfl (fun w hS => ro_build rfl bld_89_0_1_2) ?_
        rw [nd0]
        refine ql_ro rfl (fun w hS => ro_nilCheck rfl) ?_
        refine ql_ro rfl (fun w hS => ro_fieldAddr (k := 291) rfl fo_96_5) ?_
        refine ql_call rfl rfl en_130 (add130 (w := { w1 with drawn := w1.drawn + 1 }) hB V3 hN3) ?_
        rintro _ w5 ⟨⟨f5, j, rfl, hB, hd5', hP⟩, F5⟩
        replace hF := hF.thenDrew.trans F5
        refine ⟨trivial, ?_⟩
        refine ql_ro rfl (fun w hS => ro_indexAddrA (et := 93) (k := 5) rfl rfl ar_94 (rfl) ((by omega : σ.K.length < 6))) ?_
        refine ql_ro rfl (fun w hS => ro_fieldAddr (k := 0) rfl fo_93_0) ?_
        refine ql_put rfl rfl rfl rfl sz_3 hB ((cel_lt (by omega))) ((cel_put (291 + 5 * σ.K.length) (by omega))) (fun w2 hB F2 => ?_)
        replace hF := hF.thenDrew.thenO F2 (by first | exact .inr (by omega) | exact .inl rfl | exact .inl (by assumption))
        refine ?_
        refine bp_end Tryz.results96 rfl ?_
        refine ⟨rfl, ?_, hF⟩
        rcases hP with ⟨h24, rfl, V5⟩ | ⟨h24, rfl, E'⟩
        · exact RP.ok hB (V5.topAlt (ix_new V3.tl)) (by unfold foldR; rw [hC]; simp only; rw [if_neg (show ¬ 24 ≤ σ.n by omega)]; unfold fold2; simp only [hL]; exact if_neg (Nat.not_le.2 h24))
        · exact RP.er hB (E'.pt (by omega)) (by unfold foldR; rw [hC]; simp only; rw [if_neg (show ¬ 24 ≤ σ.n by omega)]; unfold fold2; simp only [hL]; exact if_pos h24)
  | some c =>
    rw [hC] at hct
    obtain ⟨jc, hjc, hfc⟩ := hct
    have hcn : jc < σ.n := by have := (List.getElem?_eq_some_iff.1 hjc).1; have := V.tl; omega
    have V3 : PV (pt f (292 + 5 * σ.K.length) (icv (-1))) p { σ with F := { σ.F with cat := none } } T := V.topCat rfl
    cases hL : σ.F.alt with
    | none =>
      rw [hL] at hlt
      refine ret_of Tryz.func96 rfl Tryz.ntmps96 rfl ?_
      refine c_seq (fun K1 hK1 => ?_)
      refine c_reg ?_ -- region 0 syn.go:93
      refine wl (ro_move rfl) ?_
      refine wl (ro_nilCheck rfl) ?_
      refine wl (ro_fieldAddr (k := 321) rfl fo_96_6) ?_
      refine wl (ro_loadB rfl sc_3 (hB) (cel_get' (by omega) V.dp)) ?_
      refine wl (ro_assign rfl) ?_
      refine wl_nil (x_then (hK1 _ _ ?_))
      clear hK1 K1
      refine forget [(0, _), (2, _)] ⟨rfl, rfl, trivial⟩ (fun e => ?_)
      refine c_seq (fun K2 hK2 => ?_)
      refine c_reg ?_ -- region 1 syn.go:94
      refine wl (ro_move rfl) ?_
      refine wl (ro_move rfl) ?_
      refine wl (ro_nilCheck rfl) ?_
      refine wl (ro_fieldAddr (k := 291) rfl fo_96_5) ?_
      refine wl (ro_indexAddrA (et := 93) (k := 5) rfl rfl ar_94 (rfl) ((by omega : σ.K.length < 6))) ?_
      refine wl (ro_fieldAddr (k := 1) rfl fo_93_1) ?_
      refine wl (ro_loadB rfl sc_3 (hB) ((cel_at (by omega) (by omega) hfc))) ?_
      refine wl (ro_assign rfl) ?_
      refine wl_nil (x_then (hK2 _ _ ?_))
      clear hK2 K2
      refine c_seq (fun K3 hK3 => ?_)
      refine c_seq (fun K4 hK4 => ?_)
      refine c_reg ?_ -- region 2 syn.go:95
      refine wl (ro_move rfl) ?_
      refine wl (ro_cmp (r := false) rfl rfl (congrArg some (decide_eq_false (by omega)))) ?_
      refine wl_nil (x_then (hK4 _ _ ?_))
      clear hK4 K4
      refine wc_condF rfl ?_
      refine c_skip (x_then (hK3 _ _ ?_))
      clear hK3 K3
      refine forget [(0, _), (2, _), (3, _)] ⟨rfl, rfl, rfl, trivial⟩ (fun e => ?_)
      refine c_seq (fun K5 hK5 => ?_)
      refine c_reg ?_ -- region 5 syn.go:101
      refine wl (ro_move rfl) ?_
      refine wl (ro_move rfl) ?_
      refine wl (ro_nilCheck rfl) ?_
      refine wl (ro_fieldAddr (k := 291) rfl fo_96_5) ?_
      refine wl (ro_indexAddrA (et := 93) (k := 5) rfl rfl ar_94 (rfl) ((by omega : σ.K.length < 6))) ?_
      refine wl (ro_fieldAddr (k := 1) rfl fo_93_1) ?_
      refine wl_put rfl rfl rfl sz_3 hB ((cel_lt (by omega))) ((cel_put (292 + 5 * σ.K.length) (by omega))) (fun w1 hB F1 => ?_)
      replace hF := hF.thenDrew.thenO F1 (by first | exact .inr (by omega) | exact .inl rfl | exact .inl (by assumption))
      refine wl_nil (x_then (hK5 _ _ ?_))
      clear hK5 K5
      refine forget [(0, _), (2, _), (3, _)] ⟨rfl, rfl, rfl, trivial⟩ (fun e => ?_)
      refine c_seq (fun K6 hK6 => ?_)
      refine c_reg ?_ -- region 6 syn.go:102
      refine wl (ro_move rfl) ?_
      refine wl (ro_move rfl) ?_
      refine wl (ro_nilCheck rfl) ?_
      refine wl (ro_fieldAddr (k := 291) rfl fo_96_5) ?_
      refine wl (ro_indexAddrA (et := 93) (k := 5) rfl rfl ar_94 (rfl) ((by omega : σ.K.length < 6))) ?_
      refine wl (ro_fieldAddr (k := 0) rfl fo_93_0) ?_
      refine wl (ro_loadB rfl sc_3 (hB) ((cel_at (by omega) (by omega : _ = 291 + 5 * σ.K.length) (Eq.trans (pt_ne (by omega)) hlt)))) ?_
      refine wl (ro_assign rfl) ?_
      refine wl_nil (x_then (hK6 _ _ ?_))
      clear hK6 K6
      refine c_seq (fun K7 hK7 => ?_)
      refine c_seq (fun K8 hK8 => ?_)
      refine c_reg ?_ -- region 7 syn.go:103
      refine wl (ro_move rfl) ?_
      refine wl (ro_cmp rfl rfl rfl) ?_
      refine wl_nil (x_then (hK8 _ _ ?_))
      clear hK8 K8
      refine wc_condT rfl ?_
      refine c_seq (fun K9 hK9 => ?_)
      refine c_reg ?_ -- region 8 syn.go:104
      refine wl (ro_move rfl) ?_
      refine wl (ro_move rfl) ?_
      refine wl (ro_move rfl) ?_
      refine wl (ro_nilCheck rfl) ?_
      refine wl (ro_fieldAddr (k := 291) rfl fo_96_5) ?_
      refine wl (ro_indexAddrA (et := 93) (k := 5) rfl rfl ar_94 (rfl) ((by omega : σ.K.length < 6))) ?_
      refine wl (ro_fieldAddr (k := 0) rfl fo_93_0) ?_
      refine wl_put rfl rfl rfl sz_3 hB ((cel_lt (by omega))) ((cel_put (291 + 5 * σ.K.length) (by omega))) (fun w2 hB F2 => ?_)
      replace hF := hF.thenDrew.thenO F2 (by first | exact .inr (by omega) | exact .inl rfl | exact .inl (by assumption))
      refine wl_nil (x_then (hK9 _ _ ?_))
      clear hK9 K9
      refine c_ret (x_thenR ?_)
      refine bp_ret Tryz.results96 rfl ?_
      exact ⟨rfl, RP.ok hB (V3.topAlt (o := some c) ⟨jc, hjc, rfl⟩) (by unfold foldR; rw [hC]; simp only; unfold fold2; simp only [hL]), hF⟩
    | some a =>
      rw [hL] at hlt
      obtain ⟨ja, hja, hfa⟩ := hlt
      have hjn : ja < σ.n := by have := (List.getElem?_eq_some_iff.1 hja).1; have := V.tl; omega
      refine ret_of Tryz.func96 rfl Tryz.ntmps96 rfl ?_
      refine c_seq (fun K1 hK1 => ?_)
      refine c_reg ?_ -- region 0 syn.go:93
      refine wl (ro_move rfl) ?_
      refine wl (ro_nilCheck rfl) ?_
      refine wl (ro_fieldAddr (k := 321) rfl fo_96_6) ?_
      refine wl (ro_loadB rfl sc_3 (hB) (cel_get' (by omega) V.dp)) ?_
      refine wl (ro_assign rfl) ?_
      refine wl_nil (x_then (hK1 _ _ ?_))
      clear hK1 K1
      refine forget [(0, _), (2, _)] ⟨rfl, rfl, trivial⟩ (fun e => ?_)
      refine c_seq (fun K2 hK2 => ?_)
      refine c_reg ?_ -- region 1 syn.go:94
      refine wl (ro_move rfl) ?_
      refine wl (ro_move rfl) ?_
      refine wl (ro_nilCheck rfl) ?_
      refine wl (ro_fieldAddr (k := 291) rfl fo_96_5) ?_
      refine wl (ro_indexAddrA (et := 93) (k := 5) rfl rfl ar_94 (rfl) ((by omega : σ.K.length < 6))) ?_
      refine wl (ro_fieldAddr (k := 1) rfl fo_93_1) ?_
      refine wl (ro_loadB rfl sc_3 (hB) ((cel_at (by omega) (by omega) hfc))) ?_
      refine wl (ro_assign rfl) ?_
      refine wl_nil (x_then (hK2 _ _ ?_))
      clear hK2 K2
      refine c_seq (fun K3 hK3 => ?_)
      refine c_seq (fun K4 hK4 => ?_)
      refine c_reg ?_ -- region 2 syn.go:95
      refine wl (ro_move rfl) ?_
      refine wl (ro_cmp (r := false) rfl rfl (congrArg some (decide_eq_false (by omega)))) ?_
      refine wl_nil (x_then (hK4 _ _ ?_))
      clear hK4 K4
      refine wc_condF rfl ?_
      refine c_skip (x_then (hK3 _ _ ?_))
      clear hK3 K3
      refine forget [(0, _), (2, _), (3, _)] ⟨rfl, rfl, rfl, trivial⟩ (fun e => ?_)
      refine c_seq (fun K5 hK5 => ?_)
      refine c_reg ?_ -- region 5 syn.go:101
      refine wl (ro_move rfl) ?_
      refine wl (ro_move rfl) ?_
      refine wl (ro_nilCheck rfl) ?_
      refine wl (ro_fieldAddr (k := 291) rfl fo_96_5) ?_
      refine wl (ro_indexAddrA (et := 93) (k := 5) rfl rfl ar_94 (rfl) ((by omega : σ.K.length < 6))) ?_
      refine wl (ro_fieldAddr (k := 1) rfl fo_93_1) ?_
      refine wl_put rfl rfl rfl sz_3 hB ((cel_lt (by omega))) ((cel_put (292 + 5 * σ.K.length) (by omega))) (fun w1 hB F1 => ?_)
      replace hF := hF.thenDrew.thenO F1 (by first | exact .inr (by omega) | exact .inl rfl | exact .inl (by assumption))
      refine wl_nil (x_then (hK5 _ _ ?_))
      clear hK5 K5
      refine forget [(0, _), (2, _), (3, _)] ⟨rfl, rfl, rfl, trivial⟩ (fun e => ?_)
      refine c_seq (fun K6 hK6 => ?_)
      refine c_reg ?_ -- region 6 syn.go:102
      refine wl (ro_move rfl) ?_
      refine wl (ro_move rfl) ?_
      refine wl (ro_nilCheck rfl) ?_
      refine wl (ro_fieldAddr (k := 291) rfl fo_96_5) ?_
      refine wl (ro_indexAddrA (et := 93) (k := 5) rfl rfl ar_94 (rfl) ((by omega : σ.K.length < 6))) ?_
      refine wl (ro_fieldAddr (k := 0) rfl fo_93_0) ?_
      refine wl (ro_loadB rfl sc_3 (hB) ((cel_at (by omega) (by omega : _ = 291 + 5 * σ.K.length) (Eq.trans (pt_ne (by omega)) hfa)))) ?_
      refine wl (ro_assign rfl) ?_
      refine wl_nil (x_then (hK6 _ _ ?_))
      clear hK6 K6
      refine c_seq (fun K7 hK7 => ?_)
      refine c_seq (fun K8 hK8 => ?_)
      refine c_reg ?_ -- region 7 syn.go:103
      refine wl (ro_move rfl) ?_
      refine wl (ro_cmp (r := false) rfl rfl (congrArg some (decide_eq_false (by omega)))) ?_
      refine wl_nil (x_then (hK8 _ _ ?_))
      clear hK8 K8
      refine wc_condF rfl ?_
      refine c_skip (x_then (hK7 _ _ ?_))
      clear hK7 K7
      refine c_piL 11 [(0, false), (1, false), (2, false), (3, false), (4, false), (5, false), (7, false), (8, false), (6, true), (9, false), (10, false)] (fun _ => True) mixed (by kernel_rfl) rfl (by kernel_rfl) (po_bp) (trivial) ?_ -- region 9 syn.go:107
      refine ql_ro rfl (fun w hS => ro_move rfl) ?_
      refine ql_ro rfl (fun w hS => ro_move rfl) ?_
      refine ql_ro rfl (fun w hS => ro_move rfl) ?_
      refine ql_ro rfl (fun w hS => ro_move rfl) ?_
      refine ql_ro rfl (fun w hS => ro_move rfl) ?_
      have hN3 : ND T (σ.n) (.alt a c) (ndc 5 ja jc 0 0 0 false 0) := ⟨ja, jc, hjn, by omega, hja, hjc, rfl⟩
      refine ql_ro rfl (fun w hS => ro_build rfl bld_89_0_1_2) ?_
      rw [nd0]
      refine ql_ro rfl (fun w hS => ro_nilCheck rfl) ?_
      refine ql_ro rfl (fun w hS => ro_fieldAddr (k := 291) rfl fo_96_5) ?_
      refine ql_call rfl rfl en_130 (add130 (w := { w1 with drawn := w1.drawn + 1 }) hB V3 hN3) ?_
      rintro _ w5 ⟨⟨f5, j, rfl, hB, hd5', hP⟩, F5⟩
      replace hF := hF.thenDrew.trans F5
      refine ⟨trivial, ?_⟩
      refine ql_ro rfl (fun w hS => ro_indexAddrA (et := 93) (k := 5) rfl rfl ar_94 (rfl) ((by omega : σ.K.length < 6))) ?_
      refine ql_ro rfl (fun w hS => ro_fieldAddr (k := 0) rfl fo_93_0) ?_
      refine ql_put rfl rfl rfl rfl sz_3 hB ((cel_lt (by omega))) ((cel_put (291 + 5 * σ.K.length) (by omega))) (fun w2 hB F2 => ?_)
      replace hF := hF.thenDrew.thenO F2 (by first | exact .inr (by omega) | exact .inl rfl | exact .inl (by assumption))
      refine ?_
      refine bp_end Tryz.results96 rfl ?_
      refine ⟨rfl, ?_, hF⟩
      rcases hP with ⟨h24, rfl, V5⟩ | ⟨h24, rfl, E'⟩
      · exact RP.ok hB (V5.topAlt (ix_new V3.tl)) (by unfold foldR; rw [hC]; simp only; unfold fold2; simp only [hL]; exact if_neg (Nat.not_le.2 h24))
      · exact RP.er hB (E'.pt (by omega)) (by unfold foldR; rw [hC]; simp only; unfold fold2; simp only [hL]; exact if_pos h24)

end Go.Proofs.Qxb6500567aGreat
