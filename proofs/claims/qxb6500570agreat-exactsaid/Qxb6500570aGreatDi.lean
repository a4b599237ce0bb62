import Derived.Test.Qxb6500570aGreatDh
import Derived.Test.Qxb6500570aGreatBn
import Derived.Test.Qxb6500570aGreatFx
/- The real evaluator: what a raw text means, what it reads. -/
namespace Go.Proofs.Qxb6500570aGreat
set_option linter.unusedVariables false
set_option linter.unusedSimpArgs false

/-- The blocks from lo up to hi. -/
def rng (lo hi : Nat) : Nat → Prop := fun b => lo ≤ b ∧ b < hi
/-- What a raw text is worth; what it reads. -/
def cellV (raw : List UInt8) (env : Nat → Vl) : Vl := if raw[0]? = some 61 then (match prs (raw.drop 1) with | none => vE 1 | some n => vT n env) else plainV raw
def rdsV (raw : List UInt8) : Nat := if raw[0]? = some 61 then (match prs (raw.drop 1) with | none => 0 | some n => rdT n) else 0
theorem prs_ok {s : List UInt8} {n : List Nd} (h : prs s = some n) : DoneOK n := by
  unfold prs at h
  split at h
  · exact parse_ok h
  · cases h

/-- The evaluator's blocks in their place. -/
def EvB (lo hi : Nat) (B : EB) (X : FB7) : Prop := EBo B ∧ B.f = X.f ∧ FBo X ∧ B.t < hi ∧ (lo ≤ X.f ∧ lo ≤ X.t ∧ lo ≤ X.a ∧ lo ≤ X.v ∧ lo ≤ X.o ∧ lo ≤ X.n ∧ lo ≤ X.u) ∧ (X.f < B.e ∧ X.t < B.e ∧ X.a < B.e ∧ X.v < B.e ∧ X.o < B.e ∧ X.n < B.e ∧ X.u < B.e)
structure EvX (w : World) (B : EB) (X : FB7) (st cl : Nat) (CL : List In) : Prop where
  fm : FmR w X
  hB : Blk w.heap B.e (evs B st cl 0 0) 89
  hC : Blk w.heap B.c (rws inc CL) 213
  cl : CL.length = 48
  hO : ∃ OL, Blk w.heap B.o (rws onc OL) 3 ∧ OL.length = 24 ∧ ∀ j, ownL OL j ≤ 10
  hK : ∃ SL, Blk w.heap B.s (rws vlc SL) 104 ∧ SL.length = 24
  hT : ∃ TL, Blk w.heap B.t (rws tyc TL) 228 ∧ TL.length = 24
/-- The evaluator at rest. -/
def EvR (w : World) (B : EB) (X : FB7) : Prop := ∃ cl CL, cl < 2 ^ 24 ∧ EvX w B X 48 cl CL
theorem FmR.far {w w' : World} {X : FB7} {G : Nat → Prop} (h : FmR w X) (F : Fram G w w') (hn : ∀ b, (b = X.f ∨ b = X.t ∨ b = X.a ∨ b = X.v ∨ b = X.o ∨ b = X.n ∨ b = X.u) → ¬ G b) : FmR w' X := by
  obtain ⟨k, pos, er, bd, wi, hv, dn, ft, fa, fv, fo, fn, fu, h1, h2, h3, h4, h5, h6, h7⟩ := h
  exact ⟨k, pos, er, bd, wi, hv, dn, ft, fa, fv, fo, fn, fu, F.blkF h1 (hn _ (by simp)), F.blkF h2 (hn _ (by simp)), F.blkF h3 (hn _ (by simp)), F.blkF h4 (hn _ (by simp)), F.blkF h5 (hn _ (by simp)), F.blkF h6 (hn _ (by simp)), F.blkF h7 (hn _ (by simp))⟩
theorem EvX.far {w w' : World} {lo hi : Nat} {B : EB} {X : FB7} {st cl : Nat} {CL : List In} {G : Nat → Prop} (hb : EvB lo hi B X) (h : EvX w B X st cl CL) (F : Fram G w w') (hn : ∀ b, lo ≤ b → b < hi → ¬ G b) : EvX w' B X st cl CL := by
  obtain ⟨⟨o1, o2, o3, o4⟩, hf, fo, ht, ⟨a1, a2, a3, a4, a5, a6, a7⟩, ⟨b1, b2, b3, b4, b5, b6, b7⟩⟩ := hb
  obtain ⟨OL, c1, c2⟩ := h.hO
  obtain ⟨SL, d1, d2⟩ := h.hK
  obtain ⟨TL, e1, e2⟩ := h.hT
  refine ⟨h.fm.far F ?_, F.blkF h.hB (hn _ (by omega) (by omega)), F.blkF h.hC (hn _ (by omega) (by omega)), h.cl, ⟨OL, F.blkF c1 (hn _ (by omega) (by omega)), c2⟩, ⟨SL, F.blkF d1 (hn _ (by omega) (by omega)), d2⟩, ⟨TL, F.blkF e1 (hn _ (by omega) (by omega)), e2⟩⟩
  rintro b (rfl | rfl | rfl | rfl | rfl | rfl | rfl) <;> exact hn _ (by omega) (by omega)

theorem TrV.old {w0 w1 u : World} {V : Value} {o : Option (List Nd)} (h : TrV w1 u V o) (hs : w0.heap.size ≤ w1.heap.size) : TrV w0 u V o := by
  cases o with
  | none => exact h
  | some ar =>
    obtain ⟨qb, h1, h2, h3⟩ := h
    exact ⟨qb, h1, by omega, h3⟩
theorem TrV.framN {w0 u u' : World} {V : Value} {o : Option (List Nd)} (h : TrV w0 u V o) (F : Fram none' u u') : TrV w0 u' V o := by
  cases o with
  | none => exact h
  | some ar =>
    obtain ⟨qb, h1, h2, h3⟩ := h
    exact ⟨qb, h1, h2, F.blkN h3⟩
/-- A tree's cells. -/
def TrC (w0 w : World) (cs : List Value) (o : Option (List Nd)) : Prop := match o with
  | some ar => ∃ qb, cs = [sl qb ar.length, icv ((ar.length : Int) - 1), icv 0, icv 0] ∧ w0.heap.size ≤ qb ∧ Blk w.heap qb (rws ndc ar) 143
  | none => ∃ er bd : Int, er ≠ 0 ∧ cs = [.slice none 0 0, icv (-1), icv er, icv bd]
theorem agg_inj {a b : List Value} (h : Value.agg a.toArray = Value.agg b.toArray) : a = b := by
  injection h with h
  simpa using congrArg Array.toList h
theorem TrV.cells {w0 u : World} {cs : List Value} {o : Option (List Nd)} (h : TrV w0 u (.agg cs.toArray) o) : TrC w0 u cs o := by
  cases o with
  | none =>
    obtain ⟨er, bd, h1, h2⟩ := h
    exact ⟨er, bd, h1, agg_inj h2⟩
  | some ar =>
    obtain ⟨qb, h1, h2⟩ := h
    exact ⟨qb, agg_inj h1, h2⟩
theorem TrV.form {w0 u : World} {V : Value} {o : Option (List Nd)} (h : TrV w0 u V o) : ∃ cs : List Value, V = .agg cs.toArray ∧ cs.length = 4 ∧ ∀ x ∈ cs, x.oneCell' = true := by
  cases o with
  | none =>
    obtain ⟨er, bd, h1, rfl⟩ := h
    exact ⟨_, rfl, rfl, by simp [Value.oneCell', icv]⟩
  | some ar =>
    obtain ⟨qb, rfl, h2⟩ := h
    exact ⟨_, rfl, rfl, by simp [Value.oneCell', icv, sl]⟩

theorem EvX.parse {w u1 u2 : World} {lo hi : Nat} {B : EB} {X : FB7} {st cl b5 : Nat} {CL : List In} (hb : EvB lo hi B X) (h : EvX w B X st cl CL) (G1 : Fram (fset X) w u1) (hfm : FmR u1 X) (F5 : Fram (one b5) u1 u2) (hb5 : w.heap.size ≤ b5) : EvX u2 B X st cl CL := by
  obtain ⟨⟨o1, o2, o3, o4⟩, hf, fo, ht, ⟨a1, a2, a3, a4, a5, a6, a7⟩, ⟨b1, b2, b3, b4, b5', b6, b7⟩⟩ := hb
  obtain ⟨OL, c1, c2⟩ := h.hO
  obtain ⟨SL, d1, d2⟩ := h.hK
  obtain ⟨TL, e1, e2⟩ := h.hT
  have key : ∀ {b : Nat} {l : List Value} {t : TypeId}, B.e ≤ b → Blk w.heap b l t → Blk u2.heap b l t := by
    intro b l t hbe hbk
    have := hbk.lt
    exact F5.blkO (G1.blkF hbk (by rintro (h | h | h | h | h) <;> omega)) (by omega)
  have hBl := h.hB.lt
  refine ⟨hfm.far F5 ?_, key (Nat.le_refl _) h.hB, key (by omega) h.hC, h.cl, ⟨OL, key (by omega) c1, c2⟩, ⟨SL, key (by omega) d1, d2⟩, ⟨TL, key (by omega) e1, e2⟩⟩
  rintro b (rfl | rfl | rfl | rfl | rfl | rfl | rfl) <;> (intro h; have h' : _ = b5 := h; omega)

set_option maxHeartbeats 4000000 in
theorem load112 {w : World} {lo hi : Nat} {B : EB} {X : FB7} {raw : List UInt8} {cl : Nat} {CL : List In} (hb : EvB lo hi B X) (h : EvX w B X 48 cl CL) (hr : raw.length ≤ 40) (h61 : raw[0]? = some 61) (hhi : hi ≤ w.heap.size) :
    Ret Tryz.prog 112 [ptr B.e, S raw] w (fun v w' => (match prs (raw.drop 1) with | none => v = .bool false ∧ EvX w' B X 48 cl CL | some n => v = .bool true ∧ ∃ st' CL', st' + (progT n).length = 48 ∧ CL'.drop st' = progT n ∧ setC (progT n) < 2 ^ 24 ∧ EvX w' B X st' (setC (progT n)) CL') ∧ Fram (rng lo hi) w w') := by
  have hF : Fram (rng lo hi) w w := Fram.refl _ _
  have hbc := hb
  obtain ⟨ho', hf, fo, ht, ⟨a1, a2, a3, a4, a5, a6, a7⟩, ⟨b1, b2, b3, b4, b5, b6, b7⟩⟩ := hbc
  have ho := ho'
  unfold EBo at ho
  have hrl : 1 ≤ raw.length := (List.getElem?_eq_some_iff.1 h61).1
  have hB := h.hB
  have hBl := hB.lt
  have hX : ∀ b, fset X b → lo ≤ b ∧ b < B.e := by
    rintro b (rfl | rfl | rfl | rfl | rfl) <;> omega
  have hX7 : ∀ b, (b = X.f ∨ b = X.t ∨ b = X.a ∨ b = X.v ∨ b = X.o ∨ b = X.n ∨ b = X.u) → b < B.e := by
    rintro b (rfl | rfl | rfl | rfl | rfl | rfl | rfl) <;> omega
  refine ret_of Tryz.func112 rfl Tryz.ntmps112 rfl ?_
  refine c_seq (fun K1 hK1 => ?_)
  refine c_reg ?_ -- region 0 val.go:75
  refine wl (ro_assign rfl) ?_
  refine wl_nil (x_then (hK1 _ _ ?_))
  clear hK1 K1
  refine forget [(0, _), (1, _)] ⟨rfl, rfl, trivial⟩ (fun e => ?_)
  refine c_seq (fun K2 hK2 => ?_)
  refine c_piF 8 6 7 [0, 1, 2, 3, 4, 5] [(7, true)] [(6, true)] (fun w' => Blk w'.heap B.e (evs B 48 cl 0 0) 89) mixed (by kernel_rfl) rfl rfl (by kernel_rfl) (po_then (po_bp)) (hB) ?_ -- region 1 val.go:76
  refine wf_ro rfl (fun w hS => ro_move rfl) ?_
  refine wf_ro rfl (fun w hS => ro_nilCheck rfl) ?_
  refine wf_ro rfl (fun w hS => ro_fieldAddr (k := 0) rfl fo_89_0) ?_
  refine wf_ro rfl (fun w hS => ro_loadB rfl sc_38 (hS) (rfl)) ?_
  refine wf_ro rfl (fun w hS => ro_move rfl) ?_
  refine wf_ro rfl (fun w hS => ro_sliceSL (l := 1) rfl rfl st_9 rfl hrl) ?_
  refine wf_cn (R := (fun v u => TrV w u v (prs (raw.drop 1)) ∧ FmR u X ∧ Fram (fset X) w u)) (G := fset X) rfl rfl rfl (by decide) (by decide) (by decide) rfl (fun _ => rfl) en_97 ze_113 sz_113 rfl ((fun w1 F1 => by have hq := Parse97 (s := raw.drop 1) fo (h.fm.far (w := w) ((Fram.drew none' w _).trans F1) (fun _ _ h => h)) (by rw [List.length_drop]; omega); rw [← hf] at hq; exact hq.mono (fun v u hh => ⟨⟨hh.1.old F1.size, hh.2.1, (((Fram.drew none' w _).trans F1).mono (fun _ _ h => h.elim)).trans hh.2.2⟩, hh.2.2⟩))) ((fun v u u' hh F => ⟨hh.1.framN F, hh.2.1.far F (fun _ _ h => h), hh.2.2.thenN F⟩)) ((fun b hg => Nat.lt_trans (hX b hg).2 hBl)) ((fun v u hh => hh.1.form)) ((fun u F => F.blkN (w := { w with drawn := w.drawn + 1 }) hB)) ((fun v u hh => hh.2.2.blkF hB (fun hg => absurd (hX _ hg).2 (by omega)))) ((fun v u hh => hh.2.2.size)) ?_
  intro cs u1 b5 u2 hR hcl hbw h50 h5 F5
  obtain ⟨hTr, hfm, G1⟩ := hR
  have hTc := hTr.cells
  have hFu : Fram (rng lo hi) w u2 := (G1.mono (fun k _ hk => ⟨(hX k hk).1, Nat.lt_trans (hX k hk).2 (by omega)⟩)).trans' F5 (fun k hk he => absurd (show k = b5 from he) (by have : w.heap.size ≤ b5 := hbw; omega))
  have hbw' : w.heap.size ≤ b5 := hbw
  have hEx : EvX u2 B X 48 cl CL := EvX.parse hb h G1 hfm F5 hbw'
  clear hF hB
  refine x_then (hK2 _ _ ?_)
  clear hK2 K2
  refine c_seq (fun K3 hK3 => ?_)
  refine c_seq (fun K4 hK4 => ?_)
  cases hp : prs (raw.drop 1)
  · skip
    rw [hp] at hTc
    obtain ⟨er, bd, her, rfl⟩ := hTc
    refine c_reg ?_ -- region 2 val.go:77
    refine wl (ro_fieldAddr (k := 2) rfl fo_113_2) ?_
    refine wl (ro_loadB rfl sc_26 (h5) (rfl)) ?_
    refine wl (ro_cmp (r := true) rfl rfl (congrArg some (by simpa using her))) ?_
    refine wl_nil (x_then (hK4 _ _ ?_))
    clear hK4 K4
    refine wc_condT rfl ?_
    refine c_seq (fun K5 hK5 => ?_)
    refine c_reg ?_ -- region 3 val.go:78
    refine wl (ro_assign rfl) ?_
    refine wl_nil (x_then (hK5 _ _ ?_))
    clear hK5 K5
    refine c_ret (x_thenR ?_)
    refine bp_ret Tryz.results112 rfl ?_
    rw [hp]
    exact ⟨⟨rfl, hEx⟩, hFu⟩
  · skip
    rename_i n
    rw [hp] at hTc
    obtain ⟨qb, rfl, hqb, hQ⟩ := hTc
    have hQ2 := F5.blkO hQ (hQ.ne_type h50 (by decide))
    obtain ⟨OL, c1, c2, c3⟩ := hEx.hO
    have hD := prs_ok hp
    have hB := hEx.hB
    refine c_reg ?_ -- region 2 val.go:77
    refine wl (ro_fieldAddr (k := 2) rfl fo_113_2) ?_
    refine wl (ro_loadB rfl sc_26 (h5) (rfl)) ?_
    refine wl (ro_cmp (r := false) rfl rfl rfl) ?_
    refine wl_nil (x_then (hK4 _ _ ?_))
    clear hK4 K4
    refine wc_condF rfl ?_
    refine c_skip (x_then (hK3 _ _ ?_))
    clear hK3 K3
    refine forget [(0, _), (5, _)] ⟨rfl, rfl, trivial⟩ (fun e => ?_)
    refine c_seq (fun K6 hK6 => ?_)
    refine c_reg ?_ -- region 4 val.go:80
    refine wl (ro_move rfl) ?_
    refine wl (ro_fieldAddr (k := 0) rfl fo_113_0) ?_
    refine wl (ro_loadB rfl sc_78 (h5) (rfl)) ?_
    refine wl_call rfl en_140 (compile140 ho' (show B.t < qb by omega) hB hEx.hC hEx.cl c1 c2 c3 hQ2 hD) ?_
    rintro _ u3 ⟨hPV, ⟨OL', q1, q2, q3⟩, G3⟩
    obtain ⟨st', CL', p1, p2, p3, p4, hB3, hC3⟩ := hPV
    obtain ⟨SL, d1, d2⟩ := hEx.hK
    obtain ⟨TL, e1, e2⟩ := hEx.hT
    refine wl_nil (x_then (hK6 _ _ ?_))
    clear hK6 K6
    refine forget [] trivial (fun e => ?_)
    refine c_seq (fun K7 hK7 => ?_)
    refine c_reg ?_ -- region 5 val.go:81
    refine wl (ro_assign rfl) ?_
    refine wl_nil (x_then (hK7 _ _ ?_))
    clear hK7 K7
    refine c_ret ?_
    refine bp_ret Tryz.results112 rfl ?_
    rw [hp]
    refine ⟨⟨rfl, st', CL', p1, p3, p4, ⟨hEx.fm.far G3 ?_, hB3, hC3, p2, ⟨OL', q1, q2, q3⟩, ⟨SL, G3.blkF d1 ?_, d2⟩, ⟨TL, G3.blkF e1 ?_, e2⟩⟩⟩, hFu.trans (G3.mono ?_)⟩
    · intro b hbx hg
      have := hX7 b hbx
      rcases hg with rfl | rfl | rfl <;> omega
    · rintro (hh | hh | hh) <;> omega
    · rintro (hh | hh | hh) <;> omega
    · rintro b _ (rfl | rfl | rfl) <;> exact ⟨by omega, by omega⟩


theorem env_lw {EL : List Vl} (h : ∀ v ∈ EL, Lw v) : ∀ c, c < 24 → Lw (envF EL c) := by
  intro c _
  unfold envF
  rw [List.getD_eq_getElem?_getD]
  cases hc : EL[c]? with
  | none => exact Lw.z
  | some v => exact h v (List.mem_of_getElem? hc)
set_option maxHeartbeats 4000000 in
theorem Cell118 {w : World} {lo hi vb : Nat} {B : EB} {X : FB7} {raw : List UInt8} {EL : List Vl} (hb : EvB lo hi B X) (h : EvR w B X) (hr : raw.length ≤ 40) (hhi : hi ≤ w.heap.size) (hvb : hi ≤ vb) (hV : Blk w.heap vb (rws vlc EL) 104) (hel : EL.length = 24) (hL : ∀ v ∈ EL, Lw v) :
    Ret Tryz.prog 118 [ptr B.e, S raw, sl vb 24] w (fun v w' => v = .tuple #[vlA (cellV raw (envF EL)), icv 0] ∧ EvR w' B X ∧ Fram (rng lo hi) w w') := by
  have hF : Fram (rng lo hi) w w := Fram.refl _ _
  obtain ⟨cl, CL, hcl, h⟩ := h
  have hbc := hb
  obtain ⟨ho', hf, fo, ht, ⟨a1, a2, a3, a4, a5, a6, a7⟩, ⟨b1, b2, b3, b4, b5, b6, b7⟩⟩ := hbc
  have ho := ho'
  unfold EBo at ho
  have hLe := env_lw hL
  refine ret_of Tryz.func118 rfl Tryz.ntmps118 rfl ?_
  refine c_seq (fun K1 hK1 => ?_)
  refine c_reg ?_ -- region 0 val.go:37
  refine wl_new (ze_104) (fun b6 w1 hbb6 h6 F1 => ?_)
  have hbsb6 := Nat.le_trans hF.size hbb6
  have hnevbb6 : vb < b6 := Nat.lt_of_lt_of_le hV.lt hbb6
  replace hF := hF.thenDrew.thenN F1
  replace hV := F1.blkN hV
  replace h := EvX.far hb h F1 (fun _ _ _ h ↦ h)
  refine wl (ro_assign rfl) ?_
  refine wl_nil (x_then (hK1 _ _ ?_))
  clear hK1 K1
  refine c_seq (fun K2 hK2 => ?_)
  refine c_seq (fun K3 hK3 => ?_)
  refine c_reg ?_ -- region 1 val.go:38
  refine wl (ro_move rfl) ?_
  refine wl (ro_lenS rfl st_9) ?_
  refine wl (ro_cmp (r := false) rfl rfl (congrArg some (decide_eq_false (by show ¬ ((raw.length : Nat) : Int) > 40; omega)))) ?_
  refine wl_nil (x_then (hK3 _ _ ?_))
  clear hK3 K3
  refine wc_condF rfl ?_
  refine c_skip (x_then (hK2 _ _ ?_))
  clear hK2 K2
  refine c_seq (fun K4 hK4 => ?_)
  refine c_seq (fun K5 hK5 => ?_)
  refine c_reg ?_ -- region 3 val.go:41
  refine wl (ro_move rfl) ?_
  refine wl (ro_lenL rfl se_86) ?_
  refine wl (ro_cmp (r := false) rfl rfl rfl) ?_
  refine wl_nil (x_then (hK5 _ _ ?_))
  clear hK5 K5
  refine wc_condF rfl ?_
  refine c_skip (x_then (hK4 _ _ ?_))
  clear hK4 K4
  refine c_seq (fun K6 hK6 => ?_)
  refine c_seq (fun K7 hK7 => ?_)
  refine c_reg ?_ -- region 5 val.go:44
  refine wl (ro_assign rfl) ?_
  refine wl_nil (x_then (hK7 _ _ ?_))
  clear hK7 K7
  refine c_block ?_
  -- loop@r6: live slots [0, 1, 2, 6, 8]
  refine c_loopG (fun m a' w' => ∃ c, m = 24 - c ∧ c ≤ 24 ∧ EvX w' B X 48 cl CL ∧ Blk w'.heap vb (rws vlc EL) 104 ∧ Blk w'.heap b6 [icv 0, icv 0, S []] 104 ∧ Fram (rng lo hi) w w' ∧ ∃ e, a' = Fr 45 (upds e [(0, ptr B.e), (1, S raw), (2, sl vb 24), (6, ptr b6), (8, i64c c)]) []) 24 ⟨0, rfl, by omega, h, hV, h6, hF, kp _ ⟨rfl, rfl, rfl, rfl, rfl, trivial⟩⟩ ?_
  clear hF hV h6 h
  rintro m a' u1 ⟨c, rfl, hc, h, hV, h6, hF, e, rfl⟩
  have hsz := hF.size
  refine c_seq (fun K8 hK8 => ?_)
  refine c_seq (fun K9 hK9 => ?_)
  refine c_reg ?_ -- region 6 val.go:44
  refine wl (ro_move rfl) ?_
  refine wl (ro_cmp (r := decide (c < 24)) rfl rfl (congrArg some (decide_eq_decide.2 (by omega)))) ?_
  refine wl_nil (x_then (hK9 _ _ ?_))
  clear hK9 K9
  refine wc_cond rfl (fun hc18 => ?_) (fun hc18 => ?_)
  · try simp only [decide_eq_true_eq, decide_eq_false_iff_not, Bool.not_eq_true', Bool.not_eq_false', Bool.not_eq_eq_eq_not, Bool.not_true, Bool.not_false, beq_iff_eq, bne_iff_ne, ne_eq, beq_eq_false_iff_ne, bne_eq_false_iff_eq, gt_iff_lt, ge_iff_le, Int.not_lt, Int.not_le] at hc18
    refine c_skip (x_then (hK8 _ _ ?_))
    clear hK8 K8
    refine forget [(0, _), (1, _), (2, _), (6, _), (8, _)] ⟨rfl, rfl, rfl, rfl, rfl, trivial⟩ (fun e => ?_)
    refine c_seq (fun K10 hK10 => ?_)
    refine c_block ?_
    refine c_seq (fun K11 hK11 => ?_)
    refine c_reg ?_ -- region 8 val.go:45
    refine wl (ro_move rfl) ?_
    refine wl (ro_move rfl) ?_
    refine wl (ro_indexAddr (et := 104) (k := 3) rfl rfl se_86 rfl (by omega)) ?_
    refine wl (ro_loadAggB rfl ag_104 (hV) ((vlc_len _)) ((rw_agg vlc_len (env_get (EL := EL) (c := c) (by omega)) (by omega)))) ?_
    refine wl_call rfl en_142 (Lawful142) ?_
    rintro _ u2 ⟨rfl, G2⟩
    replace h := EvX.far hb h G2 (fun _ _ _ h => h)
    replace hF := hF.transG G2 (by intro k hk h; simp only [one, none', ec, eco, est, rng, fset] at h ⊢ <;> omega)
    replace hV := G2.blkF hV (by intro h; simp only [one, none', ec, eco, est, rng, fset] at h <;> omega)
    replace h6 := G2.blkF h6 (by intro h; simp only [one, none', ec, eco, est, rng, fset] at h <;> omega)
    rw [lwB_iff.2 (hLe c (by omega))]
    refine wl (ro_not rfl) ?_
    refine wl_nil (x_then (hK11 _ _ ?_))
    clear hK11 K11
    refine wc_condF rfl ?_
    refine c_skip (x_blk (x_then (hK10 _ _ ?_)))
    clear hK10 K10
    refine c_reg ?_ -- region 7 val.go:44
    refine wl (ro_move rfl) ?_
    refine wl (ro_arith (r := ((c + 1 : Nat) : Int)) rfl rfl rfl (Go.IntWalk.i64_in _ (by omega))) ?_
    refine wl (ro_assign rfl) ?_
    refine wl_nil (x_then ?_)
    exact ⟨24 - (c + 1), by omega, c + 1, rfl, by omega, h, hV, h6, hF, kp _ ⟨rfl, rfl, rfl, rfl, rfl, trivial⟩⟩
  · try simp only [decide_eq_true_eq, decide_eq_false_iff_not, Bool.not_eq_true', Bool.not_eq_false', Bool.not_eq_eq_eq_not, Bool.not_true, Bool.not_false, beq_iff_eq, bne_iff_ne, ne_eq, beq_eq_false_iff_ne, bne_eq_false_iff_eq, gt_iff_lt, ge_iff_le, Int.not_lt, Int.not_le] at hc18
    refine c_exit (x_thenX (x_thenX (x_blkX (x_then (hK6 _ _ ?_)))))
    clear hK8 K8 hK6 K6
    refine c_seq (fun K12 hK12 => ?_)
    refine c_seq (fun K13 hK13 => ?_)
    have hraw : raw = [] ∨ (∃ x, raw[0]? = some x ∧ x.toNat ≠ 61) ∨ raw[0]? = some 61 := by
      cases raw with
      | nil => exact .inl rfl
      | cons x t =>
        by_cases hx : x.toNat = 61
        · exact .inr (.inr (congrArg some ((u8_eq (n := 61) (by omega)).2 hx)))
        · exact .inr (.inl ⟨x, rfl, hx⟩)
    rcases hraw with hq | ⟨x, hq, hx⟩ | hq
    · skip
      refine c_reg ?_ -- region 10 val.go:49
      refine wl (ro_move rfl) ?_
      refine wl (ro_eqS (r := true) rfl rfl (congrArg some (by rw [hq]; rfl))) ?_
      refine wl (ro_move rfl) ?_
      refine wlg_no rfl ?_
      refine wlg_no rfl ?_
      refine wlg_no rfl ?_
      refine wl (ro_pick rfl rfl rfl) ?_
      refine wl_nil (x_then (hK13 _ _ ?_))
      clear hK13 K13
      refine wc_condT rfl ?_
      refine c_seq (fun K14 hK14 => ?_)
      refine c_reg ?_ -- region 11 val.go:50
      refine wl (ro_move rfl) ?_
      refine wl_call rfl en_143 (Plain143 hr) ?_
      rintro _ u2 ⟨rfl, G2⟩
      replace h := EvX.far hb h G2 (fun _ _ _ h => h)
      replace hF := hF.transG G2 (by intro k hk h; simp only [one, none', ec, eco, est, rng, fset] at h ⊢ <;> omega)
      replace hV := G2.blkF hV (by intro h; simp only [one, none', ec, eco, est, rng, fset] at h <;> omega)
      replace h6 := G2.blkF h6 (by intro h; simp only [one, none', ec, eco, est, rng, fset] at h <;> omega)
      refine wl_puta rfl rfl ((vlc_cells _)) sz_104 (rfl) h6 ((by simp)) (rfl) (fun w2 h6 F2 => ?_)
      replace hF := hF.thenDrew.thenO F2 (by first | exact .inr (by omega) | exact .inl rfl | exact .inl (by assumption))
      replace hV := F2.blkO hV (by omega)
      replace h := EvX.far hb h F2 (fun b q1 q2 hh ↦ absurd (show b = b6 from hh) (by omega))
      refine wl (ro_assign rfl) ?_
      refine wl_nil (x_then (hK14 _ _ ?_))
      clear hK14 K14
      refine c_ret (x_thenR ?_)
      refine bq_ret (res2 Tryz.results118 (rv_c rfl ag_104 (h6) rfl) (rv_t rfl)) ?_
      refine ⟨?_, ⟨cl, CL, hcl, h⟩, hF⟩
      rw [show cellV raw (envF EL) = plainV raw by unfold cellV; rw [if_neg (by rw [hq]; simp)]]
      rfl
    · skip
      refine c_reg ?_ -- region 10 val.go:49
      refine wl (ro_move rfl) ?_
      refine wl (ro_eqS (r := false) rfl rfl (congrArg some (by cases raw with | nil => cases hq | cons x t => rfl))) ?_
      refine wl (ro_move rfl) ?_
      refine wlg_yes rfl (ro_move rfl) ?_
      refine wlg_yes rfl (ro_indexS rfl rfl st_9 rfl (hq)) ?_
      refine wlg_yes rfl (ro_cmp (r := true) rfl rfl (congrArg some ((bnec x.toNat 61).trans (decide_eq_true hx)))) ?_
      refine wl (ro_pick rfl rfl rfl) ?_
      refine wl_nil (x_then (hK13 _ _ ?_))
      clear hK13 K13
      refine wc_condT rfl ?_
      refine c_seq (fun K15 hK15 => ?_)
      refine c_reg ?_ -- region 11 val.go:50
      refine wl (ro_move rfl) ?_
      refine wl_call rfl en_143 (Plain143 hr) ?_
      rintro _ u2 ⟨rfl, G2⟩
      replace h := EvX.far hb h G2 (fun _ _ _ h => h)
      replace hF := hF.transG G2 (by intro k hk h; simp only [one, none', ec, eco, est, rng, fset] at h ⊢ <;> omega)
      replace hV := G2.blkF hV (by intro h; simp only [one, none', ec, eco, est, rng, fset] at h <;> omega)
      replace h6 := G2.blkF h6 (by intro h; simp only [one, none', ec, eco, est, rng, fset] at h <;> omega)
      refine wl_puta rfl rfl ((vlc_cells _)) sz_104 (rfl) h6 ((by simp)) (rfl) (fun w3 h6 F3 => ?_)
      replace hF := hF.thenDrew.thenO F3 (by first | exact .inr (by omega) | exact .inl rfl | exact .inl (by assumption))
      replace hV := F3.blkO hV (by omega)
      replace h := EvX.far hb h F3 (fun b q1 q2 hh ↦ absurd (show b = b6 from hh) (by omega))
      refine wl (ro_assign rfl) ?_
      refine wl_nil (x_then (hK15 _ _ ?_))
      clear hK15 K15
      refine c_ret (x_thenR ?_)
      refine bq_ret (res2 Tryz.results118 (rv_c rfl ag_104 (h6) rfl) (rv_t rfl)) ?_
      refine ⟨?_, ⟨cl, CL, hcl, h⟩, hF⟩
      rw [show cellV raw (envF EL) = plainV raw by unfold cellV; rw [if_neg (fun hh => hx (by rw [hq] at hh; cases hh; rfl))]]
      rfl
    · skip
      refine c_reg ?_ -- region 10 val.go:49
      refine wl (ro_move rfl) ?_
      refine wl (ro_eqS (r := false) rfl rfl (congrArg some (by cases raw with | nil => cases hq | cons x t => rfl))) ?_
      refine wl (ro_move rfl) ?_
      refine wlg_yes rfl (ro_move rfl) ?_
      refine wlg_yes rfl (ro_indexS rfl rfl st_9 rfl (hq)) ?_
      refine wlg_yes rfl (ro_cmp (r := false) rfl rfl rfl) ?_
      refine wl (ro_pick rfl rfl rfl) ?_
      refine wl_nil (x_then (hK13 _ _ ?_))
      clear hK13 K13
      refine wc_condF rfl ?_
      refine c_skip (x_then (hK12 _ _ ?_))
      clear hK12 K12
      refine c_seq (fun K16 hK16 => ?_)
      refine c_seq (fun K17 hK17 => ?_)
      refine c_reg ?_ -- region 12 val.go:52
      refine wl (ro_move rfl) ?_
      refine wl (ro_move rfl) ?_
      refine wl_call rfl en_112 (load112 hb h hr hq (by omega)) ?_
      rintro v3 u3 ⟨hm, G3⟩
      replace hF := hF.transG G3 (by intro k hk h; simp only [one, none', ec, eco, est, rng, fset] at h ⊢ <;> omega)
      replace hV := G3.blkF hV (by intro h; simp only [one, none', ec, eco, est, rng, fset] at h <;> omega)
      replace h6 := G3.blkF h6 (by intro h; simp only [one, none', ec, eco, est, rng, fset] at h <;> omega)
      obtain rfl : v3 = .bool (prs (raw.drop 1)).isSome := by
        cases hp : prs (raw.drop 1) with
        | none => rw [hp] at hm; exact hm.1
        | some n => rw [hp] at hm; exact hm.1
      have hcv : cellV raw (envF EL) = (match prs (raw.drop 1) with | none => vE 1 | some n => vT n (envF EL)) := by unfold cellV; rw [if_pos hq]
      refine wl (ro_not rfl) ?_
      refine wl_nil (x_then (hK17 _ _ ?_))
      clear hK17 K17
      refine wc_cond rfl (fun hc40 => ?_) (fun hc40 => ?_)
      · try simp only [decide_eq_true_eq, decide_eq_false_iff_not, Bool.not_eq_true', Bool.not_eq_false', Bool.not_eq_eq_eq_not, Bool.not_true, Bool.not_false, beq_iff_eq, bne_iff_ne, ne_eq, beq_eq_false_iff_ne, bne_eq_false_iff_eq, gt_iff_lt, ge_iff_le, Int.not_lt, Int.not_le] at hc40
        have hp : prs (raw.drop 1) = none := by
          cases hp : prs (raw.drop 1) with
          | none => rfl
          | some n => rw [hp] at hc40; cases hc40
        rw [hp] at hm hcv
        replace h := hm.2
        refine c_seq (fun K18 hK18 => ?_)
        refine c_reg ?_ -- region 13 val.go:53
        refine wl_call rfl en_116 (Err116) ?_
        rintro _ u4 ⟨rfl, G4⟩
        replace h := EvX.far hb h G4 (fun _ _ _ h => h)
        replace hF := hF.transG G4 (by intro k hk h; simp only [one, none', ec, eco, est, rng, fset] at h ⊢ <;> omega)
        replace hV := G4.blkF hV (by intro h; simp only [one, none', ec, eco, est, rng, fset] at h <;> omega)
        replace h6 := G4.blkF h6 (by intro h; simp only [one, none', ec, eco, est, rng, fset] at h <;> omega)
        refine wl_puta rfl rfl ((vlc_cells _)) sz_104 (rfl) h6 ((by simp)) (rfl) (fun w4 h6 F4 => ?_)
        replace hF := hF.thenDrew.thenO F4 (by first | exact .inr (by omega) | exact .inl rfl | exact .inl (by assumption))
        replace hV := F4.blkO hV (by omega)
        replace h := EvX.far hb h F4 (fun b q1 q2 hh ↦ absurd (show b = b6 from hh) (by omega))
        refine wl (ro_assign rfl) ?_
        refine wl_nil (x_then (hK18 _ _ ?_))
        clear hK18 K18
        refine c_ret (x_thenR ?_)
        refine bq_ret (res2 Tryz.results118 (rv_c rfl ag_104 (h6) rfl) (rv_t rfl)) ?_
        refine ⟨?_, ⟨cl, CL, hcl, h⟩, hF⟩
        rw [hcv]
        rfl
      · try simp only [decide_eq_true_eq, decide_eq_false_iff_not, Bool.not_eq_true', Bool.not_eq_false', Bool.not_eq_eq_eq_not, Bool.not_true, Bool.not_false, beq_iff_eq, bne_iff_ne, ne_eq, beq_eq_false_iff_ne, bne_eq_false_iff_eq, gt_iff_lt, ge_iff_le, Int.not_lt, Int.not_le] at hc40
        obtain ⟨n, hp⟩ : ∃ n, prs (raw.drop 1) = some n := by
          cases hp : prs (raw.drop 1) with
          | none => rw [hp] at hc40; cases hc40
          | some n => exact ⟨n, rfl⟩
        rw [hp] at hm hcv
        obtain ⟨-, st', CL', p1, p2, p3, h⟩ := hm
        have hD := prs_ok hp
        obtain ⟨-, hlw, hset, hsafe, hex⟩ := tree_law hD hLe
        obtain ⟨OL, c1, c2⟩ := h.hO
        obtain ⟨SL, d1, d2⟩ := h.hK
        obtain ⟨TL, e1, e2⟩ := h.hT
        refine c_skip (x_then (hK16 _ _ ?_))
        clear hK16 K16
        refine forget [(0, _), (2, _), (6, _)] ⟨rfl, rfl, rfl, trivial⟩ (fun e => ?_)
        refine c_seq (fun K19 hK19 => ?_)
        refine c_reg ?_ -- region 14 val.go:55
        refine wl (ro_move rfl) ?_
        refine wl (ro_move rfl) ?_
        refine wl_call rfl en_144 (run144 (W := vT n (envF EL)) ho' (show B.t < vb by omega) ⟨SL, TL, SKR.nil d2, SKR.nil e2, h.hB, d1, e1⟩ h.hC h.cl (by omega) hV hel hLe (by rw [p2]; exact hsafe) (by rw [p2]; exact hex)) ?_
        rintro _ u5 ⟨rfl, ⟨SL', TL', k1, k2, k3, k4, k5⟩, hC5, G5⟩
        replace h : EvX u5 B X 48 (setC (progT n)) CL' := ⟨h.fm.far G5 (by rintro b (rfl | rfl | rfl | rfl | rfl | rfl | rfl) (hh | hh | hh) <;> omega), k3, hC5, h.cl, ⟨OL, G5.blkF c1 (by rintro (hh | hh | hh) <;> omega), c2⟩, ⟨SL', k4, k1.1⟩, ⟨TL', k5, k2.1⟩⟩
        replace hF := hF.transG G5 (by intro k hk h; simp only [one, none', ec, eco, est, rng, fset] at h ⊢ <;> omega)
        replace hV := G5.blkF hV (by intro h; simp only [one, none', ec, eco, est, rng, fset] at h <;> omega)
        replace h6 := G5.blkF h6 (by intro h; simp only [one, none', ec, eco, est, rng, fset] at h <;> omega)
        refine wl_puta rfl rfl ((vlc_cells _)) sz_104 (rfl) h6 ((by simp)) (rfl) (fun w5 h6 F5 => ?_)
        replace hF := hF.thenDrew.thenO F5 (by first | exact .inr (by omega) | exact .inl rfl | exact .inl (by assumption))
        replace hV := F5.blkO hV (by omega)
        replace h := EvX.far hb h F5 (fun b q1 q2 hh ↦ absurd (show b = b6 from hh) (by omega))
        refine wl (ro_assign rfl) ?_
        refine wl_nil (x_then (hK19 _ _ ?_))
        clear hK19 K19
        refine c_ret ?_
        refine bq_ret (res2 Tryz.results118 (rv_c rfl ag_104 (h6) rfl) (rv_t rfl)) ?_
        refine ⟨?_, ⟨_, CL', p3, h⟩, hF⟩
        rw [hcv]
        rfl

set_option maxHeartbeats 4000000 in
theorem Reads87 {w : World} {lo hi : Nat} {B : EB} {X : FB7} {raw : List UInt8} (hb : EvB lo hi B X) (h : EvR w B X) (hr : raw.length ≤ 40) (hhi : hi ≤ w.heap.size) :
    Ret Tryz.prog 87 [ptr B.e, S raw] w (fun v w' => v = .tuple #[u32c (rdsV raw), icv 0] ∧ EvR w' B X ∧ Fram (rng lo hi) w w') := by
  have hF : Fram (rng lo hi) w w := Fram.refl _ _
  have hR := h
  obtain ⟨cl, CL, hcl, h⟩ := h
  have hbc := hb
  obtain ⟨ho', hf, fo, ht, ⟨a1, a2, a3, a4, a5, a6, a7⟩, ⟨b1, b2, b3, b4, b5, b6, b7⟩⟩ := hbc
  have ho := ho'
  unfold EBo at ho
  have hm1 : rng lo hi B.e := ⟨by omega, by omega⟩
  refine ret_of Tryz.func87 rfl Tryz.ntmps87 rfl ?_
  refine c_seq (fun K1 hK1 => ?_)
  refine c_reg ?_ -- region 0 val.go:60
  refine wl (ro_assign rfl) ?_
  refine wl (ro_assign rfl) ?_
  refine wl_nil (x_then (hK1 _ _ ?_))
  clear hK1 K1
  refine c_seq (fun K2 hK2 => ?_)
  refine c_seq (fun K3 hK3 => ?_)
  refine c_reg ?_ -- region 1 val.go:61
  refine wl (ro_move rfl) ?_
  refine wl (ro_lenS rfl st_9) ?_
  refine wl (ro_cmp (r := false) rfl rfl (congrArg some (decide_eq_false (by show ¬ ((raw.length : Nat) : Int) > 40; omega)))) ?_
  refine wl_nil (x_then (hK3 _ _ ?_))
  clear hK3 K3
  refine wc_condF rfl ?_
  refine c_skip (x_then (hK2 _ _ ?_))
  clear hK2 K2
  refine c_seq (fun K4 hK4 => ?_)
  refine c_seq (fun K5 hK5 => ?_)
  have hraw : raw = [] ∨ (∃ x, raw[0]? = some x ∧ x.toNat ≠ 61) ∨ raw[0]? = some 61 := by
    cases raw with
    | nil => exact .inl rfl
    | cons x t =>
      by_cases hx : x.toNat = 61
      · exact .inr (.inr (congrArg some ((u8_eq (n := 61) (by omega)).2 hx)))
      · exact .inr (.inl ⟨x, rfl, hx⟩)
  rcases hraw with hq | ⟨x, hq, hx⟩ | hq
  · skip
    refine c_reg ?_ -- region 3 val.go:64
    refine wl (ro_move rfl) ?_
    refine wl (ro_eqS (r := true) rfl rfl (congrArg some (by rw [hq]; rfl))) ?_
    refine wl (ro_move rfl) ?_
    refine wlg_no rfl ?_
    refine wlg_no rfl ?_
    refine wlg_no rfl ?_
    refine wl (ro_pick rfl rfl rfl) ?_
    refine wl_nil (x_then (hK5 _ _ ?_))
    clear hK5 K5
    refine wc_condT rfl ?_
    refine c_seq (fun K6 hK6 => ?_)
    refine c_reg ?_ -- region 4 val.go:65
    refine wl (ro_assign rfl) ?_
    refine wl (ro_assign rfl) ?_
    refine wl_nil (x_then (hK6 _ _ ?_))
    clear hK6 K6
    refine c_ret (x_thenR ?_)
    refine bp_ret Tryz.results87 rfl ?_
    refine ⟨?_, hR, hF⟩
    rw [show rdsV raw = 0 by unfold rdsV; rw [if_neg (by rw [hq]; simp)]]
    rfl
  · skip
    refine c_reg ?_ -- region 3 val.go:64
    refine wl (ro_move rfl) ?_
    refine wl (ro_eqS (r := false) rfl rfl (congrArg some (by cases raw with | nil => cases hq | cons x t => rfl))) ?_
    refine wl (ro_move rfl) ?_
    refine wlg_yes rfl (ro_move rfl) ?_
    refine wlg_yes rfl (ro_indexS rfl rfl st_9 rfl (hq)) ?_
    refine wlg_yes rfl (ro_cmp (r := true) rfl rfl (congrArg some ((bnec x.toNat 61).trans (decide_eq_true hx)))) ?_
    refine wl (ro_pick rfl rfl rfl) ?_
    refine wl_nil (x_then (hK5 _ _ ?_))
    clear hK5 K5
    refine wc_condT rfl ?_
    refine c_seq (fun K7 hK7 => ?_)
    refine c_reg ?_ -- region 4 val.go:65
    refine wl (ro_assign rfl) ?_
    refine wl (ro_assign rfl) ?_
    refine wl_nil (x_then (hK7 _ _ ?_))
    clear hK7 K7
    refine c_ret (x_thenR ?_)
    refine bp_ret Tryz.results87 rfl ?_
    refine ⟨?_, hR, hF⟩
    rw [show rdsV raw = 0 by unfold rdsV; rw [if_neg (fun hh => hx (by rw [hq] at hh; cases hh; rfl))]]
    rfl
  · skip
    refine c_reg ?_ -- region 3 val.go:64
    refine wl (ro_move rfl) ?_
    refine wl (ro_eqS (r := false) rfl rfl (congrArg some (by cases raw with | nil => cases hq | cons x t => rfl))) ?_
    refine wl (ro_move rfl) ?_
    refine wlg_yes rfl (ro_move rfl) ?_
    refine wlg_yes rfl (ro_indexS rfl rfl st_9 rfl (hq)) ?_
    refine wlg_yes rfl (ro_cmp (r := false) rfl rfl rfl) ?_
    refine wl (ro_pick rfl rfl rfl) ?_
    refine wl_nil (x_then (hK5 _ _ ?_))
    clear hK5 K5
    refine wc_condF rfl ?_
    refine c_skip (x_then (hK4 _ _ ?_))
    clear hK4 K4
    refine c_seq (fun K8 hK8 => ?_)
    refine c_seq (fun K9 hK9 => ?_)
    refine c_reg ?_ -- region 5 val.go:67
    refine wl (ro_move rfl) ?_
    refine wl (ro_move rfl) ?_
    refine wl_call rfl en_112 (load112 hb h hr hq (by omega)) ?_
    rintro v3 u3 ⟨hm, G3⟩
    replace hF := hF.transG G3 (by intro k hk h; simp only [one, none', ec, eco, est, rng, fset] at h ⊢ <;> omega)
    obtain rfl : v3 = .bool (prs (raw.drop 1)).isSome := by
      cases hp : prs (raw.drop 1) with
      | none => rw [hp] at hm; exact hm.1
      | some n => rw [hp] at hm; exact hm.1
    have hcv : rdsV raw = (match prs (raw.drop 1) with | none => 0 | some n => rdT n) := by unfold rdsV; rw [if_pos hq]
    refine wl (ro_not rfl) ?_
    refine wl_nil (x_then (hK9 _ _ ?_))
    clear hK9 K9
    refine wc_cond rfl (fun hc19 => ?_) (fun hc19 => ?_)
    · try simp only [decide_eq_true_eq, decide_eq_false_iff_not, Bool.not_eq_true', Bool.not_eq_false', Bool.not_eq_eq_eq_not, Bool.not_true, Bool.not_false, beq_iff_eq, bne_iff_ne, ne_eq, beq_eq_false_iff_ne, bne_eq_false_iff_eq, gt_iff_lt, ge_iff_le, Int.not_lt, Int.not_le] at hc19
      have hp : prs (raw.drop 1) = none := by
        cases hp : prs (raw.drop 1) with
        | none => rfl
        | some n => rw [hp] at hc19; cases hc19
      rw [hp] at hm hcv
      replace h := hm.2
      refine c_seq (fun K10 hK10 => ?_)
      refine c_reg ?_ -- region 6 val.go:68
      refine wl (ro_assign rfl) ?_
      refine wl (ro_assign rfl) ?_
      refine wl_nil (x_then (hK10 _ _ ?_))
      clear hK10 K10
      refine c_ret (x_thenR ?_)
      refine bp_ret Tryz.results87 rfl ?_
      refine ⟨?_, ⟨cl, CL, hcl, h⟩, hF⟩
      rw [hcv]
      rfl
    · try simp only [decide_eq_true_eq, decide_eq_false_iff_not, Bool.not_eq_true', Bool.not_eq_false', Bool.not_eq_eq_eq_not, Bool.not_true, Bool.not_false, beq_iff_eq, bne_iff_ne, ne_eq, beq_eq_false_iff_ne, bne_eq_false_iff_eq, gt_iff_lt, ge_iff_le, Int.not_lt, Int.not_le] at hc19
      obtain ⟨n, hp⟩ : ∃ n, prs (raw.drop 1) = some n := by
        cases hp : prs (raw.drop 1) with
        | none => rw [hp] at hc19; cases hc19
        | some n => exact ⟨n, rfl⟩
      rw [hp] at hm hcv
      obtain ⟨-, st', CL', p1, p2, p3, h⟩ := hm
      have hD := prs_ok hp
      have hset := (tree_law (env := fun _ => vZ) hD (fun _ _ => Lw.z)).2.2.1
      obtain ⟨OL, c1, c2⟩ := h.hO
      obtain ⟨SL, d1, d2⟩ := h.hK
      obtain ⟨TL, e1, e2⟩ := h.hT
      have hB := h.hB
      have hC := h.hC
      refine c_skip (x_then (hK8 _ _ ?_))
      clear hK8 K8
      refine forget [(0, _)] ⟨rfl, trivial⟩ (fun e => ?_)
      refine c_seq (fun K11 hK11 => ?_)
      refine c_reg ?_ -- region 7 val.go:70
      refine wl (ro_move rfl) ?_
      refine wl (ro_move rfl) ?_
      refine wl (ro_nilCheck rfl) ?_
      refine wl (ro_fieldAddr (k := 1) rfl fo_89_1) ?_
      refine wl (ro_loadB rfl sc_84 (by assumption) rfl) ?_
      refine wl (ro_lenL rfl se_84) ?_
      refine wl (ro_nilCheck rfl) ?_
      refine wl (ro_fieldAddr (k := 2) rfl fo_89_2) ?_
      refine wl_put rfl rfl rfl sz_3 hB ((by simp)) ((show _ = evs B 48 (setC (progT n)) 0 0 from rfl)) (fun w1 hB F1 => ?_)
      replace hF := hF.thenDrew.thenO F1 (by first | exact .inr (by omega) | exact .inl rfl | exact .inl (by assumption))
      replace hC := F1.blkO hC (by omega)
      replace c1 := F1.blkO c1 (by omega)
      replace d1 := F1.blkO d1 (by omega)
      replace e1 := F1.blkO e1 (by omega)
      have hfm := h.fm.far F1 (by rintro b (rfl | rfl | rfl | rfl | rfl | rfl | rfl) hh <;> exact absurd (show _ = B.e from hh) (by omega))
      refine wl_nil (x_then (hK11 _ _ ?_))
      clear hK11 K11
      refine forget [(0, _)] ⟨rfl, trivial⟩ (fun e => ?_)
      refine c_seq (fun K12 hK12 => ?_)
      refine c_reg ?_ -- region 8 val.go:71
      refine wl (ro_move rfl) ?_
      refine wl (ro_nilCheck rfl) ?_
      refine wl (ro_fieldAddr (k := 3) rfl fo_89_3) ?_
      refine wl (ro_loadB rfl sc_85 (by assumption) rfl) ?_
      refine wl (ro_assign rfl) ?_
      refine wl (ro_assign rfl) ?_
      refine wl_nil (x_then (hK12 _ _ ?_))
      clear hK12 K12
      refine c_ret ?_
      refine bp_ret Tryz.results87 rfl ?_
      refine ⟨?_, ⟨_, CL', p3, ⟨hfm, hB, hC, h.cl, ⟨OL, c1, c2⟩, ⟨SL, d1, d2⟩, ⟨TL, e1, e2⟩⟩⟩, hF⟩
      rw [hcv]
      show _ = Value.tuple #[u32c (rdT n), icv 0]
      rw [← hset]

end Go.Proofs.Qxb6500570aGreat
