import Derived.Test.Qxb6500568aGreatDoorXn
/- The model's parser: local statements. -/
namespace Go.Proofs.Qxb6500568aGreatDoor
open Ieee
set_option linter.unusedVariables false
set_option linter.unusedSimpArgs false

theorem IsE.cls {G : Arena} {n : Nat} {tr : Tr} (h : IsE G n tr) : ((nd G n).K = 17 ↔ tr.c = 3) ∧ ((nd G n).K = 18 ↔ tr.c = 4) ∧ ((nd G n).K = 19 ↔ tr.c = 5) := by
  have no : ∀ {k c : Nat}, (nd G n).K = k → k ≠ 17 ∧ k ≠ 18 ∧ k ≠ 19 → tr.c = c → c ≠ 3 ∧ c ≠ 4 ∧ c ≠ 5 → (((nd G n).K = 17 ↔ tr.c = 3) ∧ ((nd G n).K = 18 ↔ tr.c = 4) ∧ ((nd G n).K = 19 ↔ tr.c = 5)) := fun {k c} h1 h2 h3 h4 => by omega
  have ye : ∀ {k c : Nat}, (nd G n).K = k → tr.c = c → k = c + 14 → 3 ≤ c ∧ c ≤ 5 → (((nd G n).K = 17 ↔ tr.c = 3) ∧ ((nd G n).K = 18 ↔ tr.c = 4) ∧ ((nd G n).K = 19 ↔ tr.c = 5)) := fun {k c} h1 h2 h3 h4 => by omega
  rcases h.inv with ⟨_, rfl⟩ | ⟨_, rfl⟩ | ⟨_, rfl⟩ | ⟨_, rfl⟩ | ⟨_, _, rfl⟩ | ⟨_, _, rfl⟩ | ⟨_, _, _, rfl⟩ | ⟨_, rfl⟩ | ⟨_, _, _, rfl⟩ | ⟨_, _, rfl⟩ | ⟨_, _, rfl⟩ | ⟨_, _, rfl⟩
  · have := (IsE_lit.1 h).2.2
    exact no (IsE_lit.1 h).2.1 (by omega) (c := 0) rfl (by decide)
  · exact no (IsE_num.1 h).2.1 (by decide) (c := 1) rfl (by decide)
  · exact no (IsE_str.1 h).2.1 (by decide) (c := 2) rfl (by decide)
  · exact ye (IsE_name.1 h).2.1 (c := 3) rfl rfl (by decide)
  · exact ye (IsE_index.1 h).2.1 (c := 4) rfl rfl (by decide)
  · exact ye (IsE_call.1 h).2.1 (c := 5) rfl rfl (by decide)
  · exact no (IsE_func.1 h).2.1 (by decide) (c := 6) rfl (by decide)
  · exact no (IsE_table.1 h).2.1 (by decide) (c := 7) rfl (by decide)
  · exact no (IsE_bin.1 h).2.1 (by decide) (c := 8) rfl (by decide)
  · exact no (IsE_un.1 h).2.1 (by decide) (c := 9) rfl (by decide)
  · exact no (IsE_land.1 h).2.1 (by decide) (c := 10) rfl (by decide)
  · exact no (IsE_lor.1 h).2.1 (by decide) (c := 11) rfl (by decide)
theorem lay_lastE {t : Tr} (hL : LyE 0 t) {A : List Nd} (hA : 1 ≤ A.length) : ∃ y, (A ++ lay t A.length)[A.length + ndT t - 1]? = some y ∧ (y.K = 17 ↔ t.c = 3) ∧ (y.K = 18 ↔ t.c = 4) ∧ (y.K = 19 ↔ t.c = 5) := by
  have hlen := hL.len A.length
  have hp := hL.pos
  have hAg : Ag (A ++ lay t A.length) A.length (lay t A.length) := fun i x hi => by
    unfold nd
    rw [List.getD_eq_getElem?_getD, List.getElem?_append_right (by omega), Nat.add_sub_cancel_left, hi]
    rfl
  have hIs := hL.ok A.length (A ++ lay t A.length) hA ⟨0, by rw [hL.lx.nx0]; exact hAg⟩
  obtain ⟨y, hy⟩ : ∃ y, (A ++ lay t A.length)[A.length + ndT t - 1]? = some y := ⟨_, List.getElem?_eq_getElem (by rw [List.length_append, hlen]; omega)⟩
  refine ⟨y, hy, ?_⟩
  have hnd : nd (A ++ lay t A.length) (A.length + ndT t - 1) = y := by unfold nd; rw [List.getD_eq_getElem?_getD, hy]; rfl
  rw [← hnd]
  exact IsE.cls hIs
section
variable {n f : Nat} {w u u' : World} {mp : Nat} {np : Value} {src : Str} {U U1 : Value} {G G1 G2 : List (Nd × Nat)} {s s1 s2 : PS} {lv lv1 e p k x g cap i : Nat} {t : Tr} {r : Value} {l : List Value}
/-- The last node of an expression just laid. -/
theorem MS.last (h : MS w mp np src U G lv u U1 G2 s1) (hL : LyE 0 t) (hm : G2.map Prod.fst = G1.map Prod.fst ++ lay t G1.length) (hl : G2.length = G1.length + ndT t) (hg : 1 ≤ G1.length) : ∃ g cap l y, U1 = .slice (some ⟨g, 0, none⟩) G2.length cap ∧ MO u mp g cap G2 l ∧ rt t G1.length < G2.length ∧ (l.drop (0 + rt t G1.length * 8)).take 8 = ndc y ∧ (y.1.K = 17 ↔ t.c = 3) ∧ (y.1.K = 18 ↔ t.c = 4) ∧ (y.1.K = 19 ↔ t.c = 5) := by
  have hp := hL.pos
  obtain ⟨g, cap, l, h1, h2⟩ := h.a.open (by omega)
  obtain ⟨yy, hy, hK⟩ := lay_lastE hL (A := G1.map Prod.fst) (by rw [List.length_map]; omega)
  rw [List.length_map, ← hm, List.getElem?_map] at hy
  obtain ⟨y, hy2, hyn⟩ := Option.map_eq_some_iff.1 hy
  subst hyn
  rw [hL.rt]
  exact ⟨g, cap, l, y, h1, h2, by omega, h2.cell hy2, hK⟩
theorem MS.mem (h : MS w mp np src U G lv u (.slice (some ⟨g, 0, none⟩) k cap) G1 s1) : arS mp U g ∨ w.heap.size ≤ g := by
  rcases h.nb g rfl with q | q
  · exact .inl (.inr q)
  · exact .inr q
/-- A link was set. -/
theorem MS.link (h : MS w mp np src U G lv u (.slice (some ⟨g, 0, none⟩) G1.length cap) G1 s1) (hO : MO u mp g cap G1 l) (hi : i < G1.length) (hB : Blk u'.heap g (l.set (0 + i * 8 + 4) (i64c x)) 148) (f : Fram (one g) u u') : MS w mp np src U G lv u' (.slice (some ⟨g, 0, none⟩) G1.length cap) (lkG G1 i x) s1 :=
  ⟨h.F.trans' f (fun b hb q => by
    have q : b = g := q
    rcases h.mem with q2 | q2
    · rw [q]; exact q2
    · omega), h.nb, h.a.link hO hi hB f, h.pe, h.lo, by rw [lkG_len]; exact h.bd, by rw [lkG_len]; exact h.gl, h.g1⟩
theorem lk2 {a b : Str} {p q : Nat} : (lkG (G ++ [((⟨17, 0, 0, 0, 0, 0, a⟩ : Nd), p)] ++ [((⟨17, 0, 0, 0, 0, 0, b⟩ : Nd), q)]) G.length (G.length + 1)).map Prod.fst = G.map Prod.fst ++ [⟨17, 0, 0, 0, G.length + 1, 0, a⟩, ⟨17, 0, 0, 0, 0, 0, b⟩] := by
  have := lkG_map (G := G ++ [((⟨17, 0, 0, 0, 0, 0, a⟩ : Nd), p)] ++ [((⟨17, 0, 0, 0, 0, 0, b⟩ : Nd), q)]) (A := G.map Prod.fst) (l := [⟨17, 0, 0, 0, 0, 0, a⟩]) (r := [⟨17, 0, 0, 0, 0, 0, b⟩]) (n := G.length + 1) (by rw [List.map_append, List.map_append]; rfl) (by simp)
  rw [List.length_map] at this
  rw [show G.length + [(⟨17, 0, 0, 0, 0, 0, a⟩ : Nd)].length - 1 = G.length from rfl] at this
  rw [this, List.append_assoc]
  rfl
/-- Literals. -/
theorem MS.fE (h : MS w mp np src U G lv u U1 G1 s1) (ih : MAll n) (hl : lv ≤ 12) {m : Nat} (hf : s1.fu < 12) (hk : s1.k = 39) (hn : 20 * s1.len + 5 ≤ n) (hq : parP f 12 lv 0 0 dumT s1 = some (.inl (e, p))) : Ret Tryz.prog 210 [ptr mp, i64c lv, i64c m] u (fun r u' => (∃ z : Int, r = .int .i64 z) ∧ EF w mp U lv u' e p) :=
  (ih.f12 (h.mg (by omega) (by omega)) hl hf hk hn ⟨f, hq⟩).mono (fun r u' hr => h.err (by omega) hr)
theorem MS.fK (h : MS w mp np src U G lv u U1 G1 s1) (ih : MAll n) (hl : lv ≤ 12) {m : Nat} (hf : s1.fu < 12) (hk : s1.k = 39) (hn : 20 * s1.len + 5 ≤ n) (hq : parP f 12 lv 0 0 dumT s1 = some (.inr (t, s2))) : Ret Tryz.prog 210 [ptr mp, i64c lv, i64c m] u (fun r u' => ∃ U2 G2, r = i64c (rt t G1.length) ∧ MS w mp np src U G lv u' U2 G2 s2 ∧ G2.map Prod.fst = G1.map Prod.fst ++ lay t G1.length ∧ G2.length = G1.length + ndT t ∧ (∃ k ps b, t = Ex.func k ps b) ∧ s2.al = s1.al ∧ ndT t + 2 + 3 * s2.len ≤ 3 * s1.len) := by
  obtain ⟨k, ps, b, h1, _, _, _, h2, _⟩ := (par_q f).i12 h.pe hl hf t s2 hq
  have h4 : ndT t + 2 + 3 * s2.len ≤ 3 * s1.len := ((IB.all f).fn t s2 hq).1.2
  refine (ih.f12 (h.mg (by omega) (by omega)) hl hf hk hn ⟨f, hq⟩).mono (fun r u' hr => ?_)
  obtain ⟨U2, G2, q1, q2, q3, q4⟩ := h.ok hr h2.toCm h2.lo (by omega)
  exact ⟨U2, G2, q1, q2, q3, q4, ⟨k, ps, b, h1⟩, h2.al, h4⟩
end
section
variable {a b x y : Tr} {c k : Nat} {s t : Str} {ps : List Str}
theorem lay_locV : lay (St.locV s x) c = lay x c ++ [⟨1, rt x c, 0, 0, 0, 0, s⟩] := rfl
theorem lay_locFn : lay (St.locFn s k ps x) c = lay (Ex.func k ps x) c ++ [⟨3, c + ps.length + ndT x, 0, 0, 0, 0, s⟩] := rfl
theorem lay_loc2 : lay (St.loc2 s t x y) c = [⟨17, 0, 0, 0, c + 1, 0, s⟩, ⟨17, 0, 0, 0, 0, 0, t⟩] ++ lay (Ex.call x y) (c + 2) ++ [⟨2, c, c + 2 + ndT x + ndT y, 0, 0, 0, []⟩] := rfl
end
set_option maxHeartbeats 8000000 in
theorem local157 {n f : Nat} {w : World} {mp : Nat} {np : Value} {src : Str} {U : Value} {G : List (Nd × Nat)} {s : PS} {lv : Nat} {R : PO} (ih : MAll n) (hG : MG w mp np src U G s lv) (hlv : lv ≤ 12) (hk15 : s.k = 15) (hn : 20 * s.len + 12 ≤ n + 1) (hR : pLocal (parP f) lv s.adv = some R) : Ret Tryz.prog 157 [ptr mp, i64c lv] w (MR w mp np src lv U G R) := by
  have hS0 := hG.ms
  have hg1 := hG.g1
  have hbd := hG.bd
  unfold pLocal expP at hR
  have ha0 := adv_len' (s := s) (by omega)
  have ea0 : s.adv.adv.al = s.al := rfl
  have ea1 : s.adv.al = s.al := rfl
  refine ret_of Tryz.func157 rfl Tryz.ntmps157 rfl ?_
  refine c_seq (fun K1 hK1 => ?_)
  refine c_reg ?_ -- region 0 syntaxm.go:300
  refine wl (ro_assign rfl) ?_
  refine wl_nil (x_then (hK1 _ _ ?_))
  clear hK1 K1
  refine forget [(0, _), (1, _)] ⟨rfl, rfl, trivial⟩ (fun e => ?_)
  refine c_seq (fun K2 hK2 => ?_)
  refine c_reg ?_ -- region 1 syntaxm.go:301
  refine wl (ro_move rfl) ?_
  refine wl_call rfl en_48 (hS0.next (by omega)) ?_
  rintro _ u1 ⟨rfl, hS1⟩
  obtain ⟨pos1, hX1, hpos1⟩ := hS1.a.v.ex
  unfold mpc at hX1
  have hfu1 := hS1.a.v.fu
  refine wl_nil (x_then (hK2 _ _ ?_))
  clear hK2 K2
  refine c_seq (fun K3 hK3 => ?_)
  refine c_seq (fun K4 hK4 => ?_)
  refine c_reg ?_ -- region 2 syntaxm.go:302
  refine wl (ro_move rfl) ?_
  refine wl_call rfl en_156 (hS1.is (k := 12) (by decide) (by decide)) ?_
  rintro _ w9 ⟨rfl, e9⟩
  replace e9 := e9.symm
  subst e9
  refine wl_nil (x_then (hK4 _ _ ?_))
  clear hK4 K4
  refine wc_cond rfl (fun hc19 => ?_) (fun hc19 => ?_)
  · try simp only [decide_eq_true_eq, decide_eq_false_iff_not, Bool.not_eq_true', Bool.not_eq_false', Bool.not_eq_eq_eq_not, Bool.not_true, Bool.not_false, beq_iff_eq, bne_iff_ne, ne_eq, beq_eq_false_iff_ne, bne_eq_false_iff_eq, gt_iff_lt, ge_iff_le, Int.not_lt, Int.not_le] at hc19
    rw [if_pos (by omega)] at hR
    have ha1 := adv_len' (s := s.adv) (by omega)
    refine c_seq (fun K5 hK5 => ?_)
    refine c_seq (fun K6 hK6 => ?_)
    refine c_reg ?_ -- region 3 syntaxm.go:303
    refine wl (ro_move rfl) ?_
    refine wl (ro_nilCheck rfl) ?_
    refine wl (ro_fieldAddr (k := 13) rfl fo_146_9) ?_
    refine wl (ro_loadB rfl sc_3 (by assumption) rfl) ?_
    refine wl (ro_cmp rfl rfl rfl) ?_
    refine wl_nil (x_then (hK6 _ _ ?_))
    clear hK6 K6
    refine wc_cond rfl (fun hc24 => ?_) (fun hc24 => ?_)
    · try simp only [decide_eq_true_eq, decide_eq_false_iff_not, Bool.not_eq_true', Bool.not_eq_false', Bool.not_eq_eq_eq_not, Bool.not_true, Bool.not_false, beq_iff_eq, bne_iff_ne, ne_eq, beq_eq_false_iff_ne, bne_eq_false_iff_eq, gt_iff_lt, ge_iff_le, Int.not_lt, Int.not_le] at hc24
      rw [if_pos (by omega)] at hR
      cases failP_inj hR
      refine c_seq (fun K7 hK7 => ?_)
      refine c_reg ?_ -- region 4 syntaxm.go:304
      refine wl (ro_move rfl) ?_
      refine wl_call rfl en_50 (hS1.fail (c := 20) (by decide) (by omega)) ?_
      rintro _ u2 ⟨rfl, hE2⟩
      refine wl_nil (x_then (hK7 _ _ ?_))
      clear hK7 K7
      refine forget [] trivial (fun e => ?_)
      refine c_seq (fun K8 hK8 => ?_)
      refine c_reg ?_ -- region 5 syntaxm.go:305
      refine wl (ro_assign rfl) ?_
      refine wl_nil (x_then (hK8 _ _ ?_))
      clear hK8 K8
      refine c_ret (x_thenR (x_thenR ?_))
      refine bp_ret Tryz.results157 rfl ?_
      exact hE2.mr
    · try simp only [decide_eq_true_eq, decide_eq_false_iff_not, Bool.not_eq_true', Bool.not_eq_false', Bool.not_eq_eq_eq_not, Bool.not_true, Bool.not_false, beq_iff_eq, bne_iff_ne, ne_eq, beq_eq_false_iff_ne, bne_eq_false_iff_eq, gt_iff_lt, ge_iff_le, Int.not_lt, Int.not_le] at hc24
      rw [if_neg (by omega)] at hR
      refine c_skip (x_then (hK5 _ _ ?_))
      clear hK5 K5
      refine forget [(0, _), (1, _)] ⟨rfl, rfl, trivial⟩ (fun e => ?_)
      refine c_seq (fun K9 hK9 => ?_)
      refine c_reg ?_ -- region 6 syntaxm.go:307
      refine wl (ro_move rfl) ?_
      refine wl_call rfl en_48 (hS1.next (by omega)) ?_
      rintro _ u2 ⟨rfl, hS2⟩
      refine wl_nil (x_then (hK9 _ _ ?_))
      clear hK9 K9
      refine forget [(0, _), (1, _)] ⟨rfl, rfl, trivial⟩ (fun e => ?_)
      refine c_seq (fun K10 hK10 => ?_)
      rcases nameP_or hR with ⟨ee, pp, rfl, hNF⟩ | ⟨hNK, hR⟩
      · skip
        refine c_reg ?_ -- region 7 syntaxm.go:308
        refine wl (ro_move rfl) ?_
        refine wl_call rfl en_209 (hS2.nameN (x := 1) hNF (by decide) (by omega)) ?_
        rintro _ u3 ⟨⟨na, nb, rfl⟩, hE3⟩
        obtain ⟨np', src', pos', t', U', al', lo', fu', hXe, h3⟩ := hE3.blk
        unfold mpc at hXe
        refine wl (ro_move rfl) ?_
        refine wl (ro_extract rfl rfl) ?_
        refine wl (ro_extract rfl rfl) ?_
        refine wl (ro_assign rfl) ?_
        refine wl (ro_assign rfl) ?_
        refine wl_nil (x_then (hK10 _ _ ?_))
        clear hK10 K10
        refine c_seq (fun K11 hK11 => ?_)
        refine c_seq (fun K12 hK12 => ?_)
        refine c_reg ?_ -- region 8 syntaxm.go:309
        refine wl (ro_move rfl) ?_
        refine wl (ro_nilCheck rfl) ?_
        refine wl (ro_fieldAddr (k := 9) rfl fo_146_5) ?_
        refine wl (ro_loadB rfl sc_54 (by assumption) rfl) ?_
        refine wl (ro_cmp rfl rfl rfl) ?_
        refine wl_nil (x_then (hK12 _ _ ?_))
        clear hK12 K12
        refine wc_cond rfl (fun hc38 => ?_) (fun hc38 => ?_)
        · try simp only [decide_eq_true_eq, decide_eq_false_iff_not, Bool.not_eq_true', Bool.not_eq_false', Bool.not_eq_eq_eq_not, Bool.not_true, Bool.not_false, beq_iff_eq, bne_iff_ne, ne_eq, beq_eq_false_iff_ne, bne_eq_false_iff_eq, gt_iff_lt, ge_iff_le, Int.not_lt, Int.not_le] at hc38
          refine c_seq (fun K13 hK13 => ?_)
          refine c_reg ?_ -- region 9 syntaxm.go:310
          refine wl (ro_assign rfl) ?_
          refine wl_nil (x_then (hK13 _ _ ?_))
          clear hK13 K13
          refine c_ret (x_thenR (x_thenR ?_))
          refine bp_ret Tryz.results157 rfl ?_
          exact hE3.mr
        · try simp only [decide_eq_true_eq, decide_eq_false_iff_not, Bool.not_eq_true', Bool.not_eq_false', Bool.not_eq_eq_eq_not, Bool.not_true, Bool.not_false, beq_iff_eq, bne_iff_ne, ne_eq, beq_eq_false_iff_ne, bne_eq_false_iff_eq, gt_iff_lt, ge_iff_le, Int.not_lt, Int.not_le] at hc38
          omega
      · skip
        refine c_reg ?_ -- region 7 syntaxm.go:308
        refine wl (ro_move rfl) ?_
        refine wl_call rfl en_209 (hS2.name (x := 1) hNK (by decide)) ?_
        rintro _ u3 ⟨rfl, hS3⟩
        have hk2 := hNK.1
        have ha2 := adv_len' (s := s.adv.adv) (by omega)
        have hal2 : s.al + 1 ≤ 12 := by have := hNK.2; omega
        have e31 : s.adv.adv.adv.al = s.al := rfl
        have e32 : s.adv.adv.adv.fu = s.fu := rfl
        generalize e3 : s.adv.adv.adv = s3 at hR hS3 ha2 e31 e32
        have hal3 : s3.al + 1 ≤ 12 := by omega
        obtain ⟨pos3, hX3, hpos3⟩ := hS3.a.v.ex
        unfold mpc at hX3
        have hL3 : Fram (one mp) u3 u3 := Fram.refl _ _
        have hmp : one mp mp := rfl
        refine wl (ro_move rfl) ?_
        refine wl (ro_extract rfl rfl) ?_
        refine wl (ro_extract rfl rfl) ?_
        refine wl (ro_assign rfl) ?_
        refine wl (ro_assign rfl) ?_
        refine wl_nil (x_then (hK10 _ _ ?_))
        clear hK10 K10
        refine c_seq (fun K14 hK14 => ?_)
        refine c_seq (fun K15 hK15 => ?_)
        refine c_reg ?_ -- region 8 syntaxm.go:309
        refine wl (ro_move rfl) ?_
        refine wl (ro_nilCheck rfl) ?_
        refine wl (ro_fieldAddr (k := 9) rfl fo_146_5) ?_
        refine wl (ro_loadB rfl sc_54 (by assumption) rfl) ?_
        refine wl (ro_cmp rfl rfl rfl) ?_
        refine wl_nil (x_then (hK15 _ _ ?_))
        clear hK15 K15
        refine wc_cond rfl (fun hc38 => ?_) (fun hc38 => ?_)
        · try simp only [decide_eq_true_eq, decide_eq_false_iff_not, Bool.not_eq_true', Bool.not_eq_false', Bool.not_eq_eq_eq_not, Bool.not_true, Bool.not_false, beq_iff_eq, bne_iff_ne, ne_eq, beq_eq_false_iff_ne, bne_eq_false_iff_eq, gt_iff_lt, ge_iff_le, Int.not_lt, Int.not_le] at hc38
          exact absurd rfl hc38
        · try simp only [decide_eq_true_eq, decide_eq_false_iff_not, Bool.not_eq_true', Bool.not_eq_false', Bool.not_eq_eq_eq_not, Bool.not_true, Bool.not_false, beq_iff_eq, bne_iff_ne, ne_eq, beq_eq_false_iff_ne, bne_eq_false_iff_eq, gt_iff_lt, ge_iff_le, Int.not_lt, Int.not_le] at hc38
          refine c_skip (x_then (hK14 _ _ ?_))
          clear hK14 K14
          refine forget [(0, _), (1, _), (5, _), (6, _)] ⟨rfl, rfl, rfl, rfl, trivial⟩ (fun e => ?_)
          refine c_seq (fun K16 hK16 => ?_)
          refine c_reg ?_ -- region 10 syntaxm.go:312
          refine wl (ro_move rfl) ?_
          refine wl (ro_nilCheck rfl) ?_
          refine wl (ro_fieldAddr (k := 11) rfl fo_146_7) ?_
          refine wl (ro_loadB rfl sc_3 (by assumption) rfl) ?_
          refine wl (ro_arith rfl rfl rfl (Go.IntWalk.i64_in _ (by omega))) ?_
          refine wl (ro_nilCheck rfl) ?_
          refine wl (ro_fieldAddr (k := 11) rfl fo_146_7) ?_
          refine wl_put rfl rfl rfl sz_3 hX3 (by simp) (rfl) (fun w1 hX3 F1 => ?_)
          replace hL3 := hL3.thenDrew.thenO F1 (by first | exact .inr (by omega) | exact .inl rfl | exact .inl (by assumption) | assumption)
          refine wl_nil (x_then (hK16 _ _ ?_))
          clear hK16 K16
          refine c_seq (fun K17 hK17 => ?_)
          refine c_seq (fun K18 hK18 => ?_)
          have hM4 : MV _ mp np src U { s3 with al := s3.al + 1 } := ⟨⟨pos3, hX3, hpos3⟩, hS3.a.v.sx, hS3.a.v.ne, hal3, hS3.a.v.lo, hS3.a.v.fu, hS3.a.v.sl⟩
          have hS4 := hS3.setA hal3 hM4 hL3
          have hk4 : PS.k { s3 with al := s3.al + 1 } = s3.k := rfl
          have hl4 : PS.len { s3 with al := s3.al + 1 } = s3.len := rfl
          refine c_reg ?_ -- region 11 syntaxm.go:313
          refine wl (ro_move rfl) ?_
          refine wl_call rfl en_156 (hS4.is (k := 39) (by decide) (by decide)) ?_
          rintro _ w9 ⟨rfl, e9⟩
          replace e9 := e9.symm
          subst e9
          refine wl (ro_not rfl) ?_
          refine wl_nil (x_then (hK18 _ _ ?_))
          clear hK18 K18
          refine wc_cond rfl (fun hc48 => ?_) (fun hc48 => ?_)
          · try simp only [decide_eq_true_eq, decide_eq_false_iff_not, Bool.not_eq_true', Bool.not_eq_false', Bool.not_eq_eq_eq_not, Bool.not_true, Bool.not_false, beq_iff_eq, bne_iff_ne, ne_eq, beq_eq_false_iff_ne, bne_eq_false_iff_eq, gt_iff_lt, ge_iff_le, Int.not_lt, Int.not_le] at hc48
            have hk39 : ¬ s3.k = 39 := by
              first
              | exact hc48
              | (have h := hc48; simp at h; exact h)
            obtain ⟨R7, hq7, hR7⟩ := bdP_res hR
            obtain ⟨f7, hq7⟩ := run_step.1 (⟨f, hq7⟩ : Run 12 lv 0 0 dumT _ R7)
            replace hq7 : pLit (parP f7) lv { s3 with al := s3.al + 1 } = some R7 := hq7
            unfold pLit expP at hq7
            rw [hk4, if_neg hk39] at hq7
            cases failP_inj hq7
            cases hR7
            refine c_seq (fun K19 hK19 => ?_)
            refine c_reg ?_ -- region 12 syntaxm.go:314
            refine wl (ro_move rfl) ?_
            refine wl_call rfl en_50 (hS4.fail (c := 15) (by decide) (by omega)) ?_
            rintro _ u5 ⟨rfl, hE5⟩
            refine wl_nil (x_then (hK19 _ _ ?_))
            clear hK19 K19
            refine forget [] trivial (fun e => ?_)
            refine c_seq (fun K20 hK20 => ?_)
            refine c_reg ?_ -- region 13 syntaxm.go:315
            refine wl (ro_assign rfl) ?_
            refine wl_nil (x_then (hK20 _ _ ?_))
            clear hK20 K20
            refine c_ret (x_thenR (x_thenR ?_))
            refine bp_ret Tryz.results157 rfl ?_
            exact hE5.mr
          · try simp only [decide_eq_true_eq, decide_eq_false_iff_not, Bool.not_eq_true', Bool.not_eq_false', Bool.not_eq_eq_eq_not, Bool.not_true, Bool.not_false, beq_iff_eq, bne_iff_ne, ne_eq, beq_eq_false_iff_ne, bne_eq_false_iff_eq, gt_iff_lt, ge_iff_le, Int.not_lt, Int.not_le] at hc48
            have hk39 : s3.k = 39 := by
              first
              | exact hc48
              | (have h := hc48; simp at h; exact h)
            have hfu4 : s3.fu < 12 := by have : s.adv.fu = s.fu := rfl; omega
            refine c_skip (x_then (hK17 _ _ ?_))
            clear hK17 K17
            refine forget [(0, _), (1, _), (5, _), (6, _)] ⟨rfl, rfl, rfl, rfl, trivial⟩ (fun e => ?_)
            refine c_seq (fun K21 hK21 => ?_)
            rcases bdP_some hR with ⟨⟨ee, pp⟩, hq, rfl⟩ | ⟨t1, s1, hq, hR⟩
            · skip
              refine c_reg ?_ -- region 14 syntaxm.go:317
              refine wl (ro_move rfl) ?_
              refine wl (ro_move rfl) ?_
              refine wl (ro_move rfl) ?_
              refine wl_call rfl en_210 (hS4.fE ih hlv hfu4 hk39 (by omega) hq) ?_
              rintro v u5 ⟨⟨z, rfl⟩, hE5⟩
              obtain ⟨np', src', pos', t', U', al', lo', fu', hXe, h3⟩ := hE5.blk
              unfold mpc at hXe
              refine wl (ro_assign rfl) ?_
              refine wl_nil (x_then (hK21 _ _ ?_))
              clear hK21 K21
              refine c_seq (fun K22 hK22 => ?_)
              refine c_seq (fun K23 hK23 => ?_)
              refine c_reg ?_ -- region 15 syntaxm.go:318
              refine wl (ro_move rfl) ?_
              refine wl (ro_nilCheck rfl) ?_
              refine wl (ro_fieldAddr (k := 9) rfl fo_146_5) ?_
              refine wl (ro_loadB rfl sc_54 (by assumption) rfl) ?_
              refine wl (ro_cmp rfl rfl rfl) ?_
              refine wl_nil (x_then (hK23 _ _ ?_))
              clear hK23 K23
              refine wc_cond rfl (fun hc59 => ?_) (fun hc59 => ?_)
              · try simp only [decide_eq_true_eq, decide_eq_false_iff_not, Bool.not_eq_true', Bool.not_eq_false', Bool.not_eq_eq_eq_not, Bool.not_true, Bool.not_false, beq_iff_eq, bne_iff_ne, ne_eq, beq_eq_false_iff_ne, bne_eq_false_iff_eq, gt_iff_lt, ge_iff_le, Int.not_lt, Int.not_le] at hc59
                refine c_seq (fun K24 hK24 => ?_)
                refine c_reg ?_ -- region 16 syntaxm.go:319
                refine wl (ro_assign rfl) ?_
                refine wl_nil (x_then (hK24 _ _ ?_))
                clear hK24 K24
                refine c_ret (x_thenR (x_thenR ?_))
                refine bp_ret Tryz.results157 rfl ?_
                exact hE5.mr
              · try simp only [decide_eq_true_eq, decide_eq_false_iff_not, Bool.not_eq_true', Bool.not_eq_false', Bool.not_eq_eq_eq_not, Bool.not_true, Bool.not_false, beq_iff_eq, bne_iff_ne, ne_eq, beq_eq_false_iff_ne, bne_eq_false_iff_eq, gt_iff_lt, ge_iff_le, Int.not_lt, Int.not_le] at hc59
                omega
            · skip
              refine c_reg ?_ -- region 14 syntaxm.go:317
              refine wl (ro_move rfl) ?_
              refine wl (ro_move rfl) ?_
              refine wl (ro_move rfl) ?_
              refine wl_call rfl en_210 (hS4.fK ih hlv hfu4 hk39 (by omega) hq) ?_
              rintro v u5 ⟨U5, G5, rfl, hS5, m5, l5, ⟨k5, ps5, b5, rfl⟩, al5, bb5⟩
              obtain ⟨pos5, hX5, hpos5⟩ := hS5.a.v.ex
              unfold mpc at hX5
              have en5 : ndT (Ex.func k5 ps5 b5) = (1 + ps5.length) + ndT b5 := rfl
              have er5 : rt (Ex.func k5 ps5 b5) G.length = G.length + ndT (Ex.func k5 ps5 b5) - 1 := rfl
              refine wl (ro_assign rfl) ?_
              refine wl_nil (x_then (hK21 _ _ ?_))
              clear hK21 K21
              refine c_seq (fun K25 hK25 => ?_)
              refine c_seq (fun K26 hK26 => ?_)
              refine c_reg ?_ -- region 15 syntaxm.go:318
              refine wl (ro_move rfl) ?_
              refine wl (ro_nilCheck rfl) ?_
              refine wl (ro_fieldAddr (k := 9) rfl fo_146_5) ?_
              refine wl (ro_loadB rfl sc_54 (by assumption) rfl) ?_
              refine wl (ro_cmp rfl rfl rfl) ?_
              refine wl_nil (x_then (hK26 _ _ ?_))
              clear hK26 K26
              refine wc_cond rfl (fun hc59 => ?_) (fun hc59 => ?_)
              · try simp only [decide_eq_true_eq, decide_eq_false_iff_not, Bool.not_eq_true', Bool.not_eq_false', Bool.not_eq_eq_eq_not, Bool.not_true, Bool.not_false, beq_iff_eq, bne_iff_ne, ne_eq, beq_eq_false_iff_ne, bne_eq_false_iff_eq, gt_iff_lt, ge_iff_le, Int.not_lt, Int.not_le] at hc59
                exact absurd rfl hc59
              · try simp only [decide_eq_true_eq, decide_eq_false_iff_not, Bool.not_eq_true', Bool.not_eq_false', Bool.not_eq_eq_eq_not, Bool.not_true, Bool.not_false, beq_iff_eq, bne_iff_ne, ne_eq, beq_eq_false_iff_ne, bne_eq_false_iff_eq, gt_iff_lt, ge_iff_le, Int.not_lt, Int.not_le] at hc59
                refine c_skip (x_then (hK25 _ _ ?_))
                clear hK25 K25
                refine forget [(0, _), (5, _), (6, _), (7, _)] ⟨rfl, rfl, rfl, rfl, trivial⟩ (fun e => ?_)
                refine c_seq (fun K27 hK27 => ?_)
                refine c_reg ?_ -- region 17 syntaxm.go:321
                refine wl (ro_move rfl) ?_
                refine wl (ro_move rfl) ?_
                refine wl (ro_move rfl) ?_
                refine wl (ro_move rfl) ?_
                refine wl (ro_build rfl bld_148_0_6_1_7) ?_
                refine wl_call rfl en_162 (hS5.add (x := (⟨3, rt (Ex.func k5 ps5 b5) G.length, 0, 0, 0, 0, s.adv.adv.cur.s⟩, s.adv.adv.cur.pl)) (by have := hS5.bd; omega)) ?_
                rintro _ u6 ⟨rfl, U6, hS6⟩
                refine wl (ro_assign rfl) ?_
                refine wl_nil (x_then (hK27 _ _ ?_))
                clear hK27 K27
                refine c_ret (x_thenR ?_)
                refine bp_ret Tryz.results157 rfl ?_
                cases okP_inj hR
                refine hS6.fin ?_ ?_ ?_
                · rw [List.map_append, m5, show (Ex.func k5 ps5 b5).ks.headD dumT = b5 from rfl, show (Ex.func k5 ps5 b5).n = k5 from rfl, show (Ex.func k5 ps5 b5).ps = ps5 from rfl, lay_locFn, List.append_assoc]
                  rw [show G.length + ps5.length + ndT b5 = rt (Ex.func k5 ps5 b5) G.length by omega]
                  rfl
                · rw [List.length_append]
                  show _ = G.length + ((2 + ps5.length) + ndT b5)
                  simp only [List.length_cons, List.length_nil]
                  omega
                · show _ = G.length + ((2 + ps5.length) + ndT b5) - 1
                  omega
  · try simp only [decide_eq_true_eq, decide_eq_false_iff_not, Bool.not_eq_true', Bool.not_eq_false', Bool.not_eq_eq_eq_not, Bool.not_true, Bool.not_false, beq_iff_eq, bne_iff_ne, ne_eq, beq_eq_false_iff_ne, bne_eq_false_iff_eq, gt_iff_lt, ge_iff_le, Int.not_lt, Int.not_le] at hc19
    rw [if_neg (by omega)] at hR
    refine c_skip (x_then (hK3 _ _ ?_))
    clear hK3 K3
    refine forget [(0, _), (1, _)] ⟨rfl, rfl, trivial⟩ (fun e => ?_)
    refine c_seq (fun K28 hK28 => ?_)
    rcases nameP_or hR with ⟨ee, pp, rfl, hNF⟩ | ⟨hNK, hR⟩
    · skip
      refine c_reg ?_ -- region 18 syntaxm.go:323
      refine wl (ro_move rfl) ?_
      refine wl_call rfl en_209 (hS1.nameN (x := 1) hNF (by decide) (by omega)) ?_
      rintro _ u3 ⟨⟨na, nb, rfl⟩, hE3⟩
      obtain ⟨np', src', pos', t', U', al', lo', fu', hXe, h3⟩ := hE3.blk
      unfold mpc at hXe
      refine wl (ro_move rfl) ?_
      refine wl (ro_extract rfl rfl) ?_
      refine wl (ro_extract rfl rfl) ?_
      refine wl (ro_assign rfl) ?_
      refine wl (ro_assign rfl) ?_
      refine wl_nil (x_then (hK28 _ _ ?_))
      clear hK28 K28
      refine c_seq (fun K29 hK29 => ?_)
      refine c_seq (fun K30 hK30 => ?_)
      refine c_reg ?_ -- region 19 syntaxm.go:324
      refine wl (ro_move rfl) ?_
      refine wl (ro_nilCheck rfl) ?_
      refine wl (ro_fieldAddr (k := 9) rfl fo_146_5) ?_
      refine wl (ro_loadB rfl sc_54 (by assumption) rfl) ?_
      refine wl (ro_cmp rfl rfl rfl) ?_
      refine wl_nil (x_then (hK30 _ _ ?_))
      clear hK30 K30
      refine wc_cond rfl (fun hc75 => ?_) (fun hc75 => ?_)
      · try simp only [decide_eq_true_eq, decide_eq_false_iff_not, Bool.not_eq_true', Bool.not_eq_false', Bool.not_eq_eq_eq_not, Bool.not_true, Bool.not_false, beq_iff_eq, bne_iff_ne, ne_eq, beq_eq_false_iff_ne, bne_eq_false_iff_eq, gt_iff_lt, ge_iff_le, Int.not_lt, Int.not_le] at hc75
        refine c_seq (fun K31 hK31 => ?_)
        refine c_reg ?_ -- region 20 syntaxm.go:325
        refine wl (ro_assign rfl) ?_
        refine wl_nil (x_then (hK31 _ _ ?_))
        clear hK31 K31
        refine c_ret (x_thenR ?_)
        refine bp_ret Tryz.results157 rfl ?_
        exact hE3.mr
      · try simp only [decide_eq_true_eq, decide_eq_false_iff_not, Bool.not_eq_true', Bool.not_eq_false', Bool.not_eq_eq_eq_not, Bool.not_true, Bool.not_false, beq_iff_eq, bne_iff_ne, ne_eq, beq_eq_false_iff_ne, bne_eq_false_iff_eq, gt_iff_lt, ge_iff_le, Int.not_lt, Int.not_le] at hc75
        omega
    · skip
      refine c_reg ?_ -- region 18 syntaxm.go:323
      refine wl (ro_move rfl) ?_
      refine wl_call rfl en_209 (hS1.name (x := 1) hNK (by decide)) ?_
      rintro _ u2 ⟨rfl, hS2⟩
      have hk2 := hNK.1
      have ha1 := adv_len' (s := s.adv) (by omega)
      have hal2 : s.al + 1 ≤ 12 := by have := hNK.2; omega
      generalize e2 : s.adv.adv = s2 at hR hS2 ha1 ea0
      obtain ⟨pos2, hX2, hpos2⟩ := hS2.a.v.ex
      unfold mpc at hX2
      refine wl (ro_move rfl) ?_
      refine wl (ro_extract rfl rfl) ?_
      refine wl (ro_extract rfl rfl) ?_
      refine wl (ro_assign rfl) ?_
      refine wl (ro_assign rfl) ?_
      refine wl_nil (x_then (hK28 _ _ ?_))
      clear hK28 K28
      refine c_seq (fun K32 hK32 => ?_)
      refine c_seq (fun K33 hK33 => ?_)
      refine c_reg ?_ -- region 19 syntaxm.go:324
      refine wl (ro_move rfl) ?_
      refine wl (ro_nilCheck rfl) ?_
      refine wl (ro_fieldAddr (k := 9) rfl fo_146_5) ?_
      refine wl (ro_loadB rfl sc_54 (by assumption) rfl) ?_
      refine wl (ro_cmp rfl rfl rfl) ?_
      refine wl_nil (x_then (hK33 _ _ ?_))
      clear hK33 K33
      refine wc_cond rfl (fun hc75 => ?_) (fun hc75 => ?_)
      · try simp only [decide_eq_true_eq, decide_eq_false_iff_not, Bool.not_eq_true', Bool.not_eq_false', Bool.not_eq_eq_eq_not, Bool.not_true, Bool.not_false, beq_iff_eq, bne_iff_ne, ne_eq, beq_eq_false_iff_ne, bne_eq_false_iff_eq, gt_iff_lt, ge_iff_le, Int.not_lt, Int.not_le] at hc75
        exact absurd rfl hc75
      · try simp only [decide_eq_true_eq, decide_eq_false_iff_not, Bool.not_eq_true', Bool.not_eq_false', Bool.not_eq_eq_eq_not, Bool.not_true, Bool.not_false, beq_iff_eq, bne_iff_ne, ne_eq, beq_eq_false_iff_ne, bne_eq_false_iff_eq, gt_iff_lt, ge_iff_le, Int.not_lt, Int.not_le] at hc75
        refine c_skip (x_then (hK32 _ _ ?_))
        clear hK32 K32
        refine c_seq (fun K34 hK34 => ?_)
        refine c_seq (fun K35 hK35 => ?_)
        refine c_reg ?_ -- region 21 syntaxm.go:327
        refine wl (ro_move rfl) ?_
        refine wl_call rfl en_156 (hS2.is (k := 45) (by decide) (by decide)) ?_
        rintro _ w9 ⟨rfl, e9⟩
        replace e9 := e9.symm
        subst e9
        refine wl_nil (x_then (hK35 _ _ ?_))
        clear hK35 K35
        refine wc_cond rfl (fun hc77 => ?_) (fun hc77 => ?_)
        · try simp only [decide_eq_true_eq, decide_eq_false_iff_not, Bool.not_eq_true', Bool.not_eq_false', Bool.not_eq_eq_eq_not, Bool.not_true, Bool.not_false, beq_iff_eq, bne_iff_ne, ne_eq, beq_eq_false_iff_ne, bne_eq_false_iff_eq, gt_iff_lt, ge_iff_le, Int.not_lt, Int.not_le] at hc77
          rw [if_pos (by omega)] at hR
          have ha2 := adv_len' (s := s2) (by omega)
          refine c_seq (fun K36 hK36 => ?_)
          refine c_reg ?_ -- region 22 syntaxm.go:328
          refine wl (ro_move rfl) ?_
          refine wl_call rfl en_48 (hS2.next (by omega)) ?_
          rintro _ u3 ⟨rfl, hS3⟩
          refine wl_nil (x_then (hK36 _ _ ?_))
          clear hK36 K36
          refine forget [(0, _), (1, _), (8, _), (9, _)] ⟨rfl, rfl, rfl, rfl, trivial⟩ (fun e => ?_)
          refine c_seq (fun K37 hK37 => ?_)
          rcases nameP_or hR with ⟨ee, pp, rfl, hNF⟩ | ⟨hNK2, hR⟩
          · skip
            refine c_reg ?_ -- region 23 syntaxm.go:329
            refine wl (ro_move rfl) ?_
            refine wl_call rfl en_209 (hS3.nameN (x := 2) hNF (by decide) (by omega)) ?_
            rintro _ u4 ⟨⟨na, nb, rfl⟩, hE4⟩
            refine wl (ro_move rfl) ?_
            refine wl (ro_extract rfl rfl) ?_
            refine wl (ro_extract rfl rfl) ?_
            refine wl (ro_assign rfl) ?_
            refine wl (ro_assign rfl) ?_
            refine wl_nil (x_then (hK37 _ _ ?_))
            clear hK37 K37
            refine forget [(0, _), (1, _), (8, _), (9, _), (10, _), (11, _)] ⟨rfl, rfl, rfl, rfl, rfl, rfl, trivial⟩ (fun e => ?_)
            refine c_seq (fun K38 hK38 => ?_)
            refine c_reg ?_ -- region 24 syntaxm.go:330
            refine wl (ro_move rfl) ?_
            refine wl_call rfl en_211 (hE4.want) ?_
            rintro _ u5 ⟨rfl, hE5⟩
            obtain ⟨np', src', pos', t', U', al', lo', fu', hXe, h3⟩ := hE5.blk
            unfold mpc at hXe
            refine wl_nil (x_then (hK38 _ _ ?_))
            clear hK38 K38
            refine c_seq (fun K39 hK39 => ?_)
            refine c_seq (fun K40 hK40 => ?_)
            refine c_reg ?_ -- region 25 syntaxm.go:331
            refine wl (ro_move rfl) ?_
            refine wl (ro_nilCheck rfl) ?_
            refine wl (ro_fieldAddr (k := 9) rfl fo_146_5) ?_
            refine wl (ro_loadB rfl sc_54 (by assumption) rfl) ?_
            refine wl (ro_cmp rfl rfl rfl) ?_
            refine wl_nil (x_then (hK40 _ _ ?_))
            clear hK40 K40
            refine wc_cond rfl (fun hc91 => ?_) (fun hc91 => ?_)
            · try simp only [decide_eq_true_eq, decide_eq_false_iff_not, Bool.not_eq_true', Bool.not_eq_false', Bool.not_eq_eq_eq_not, Bool.not_true, Bool.not_false, beq_iff_eq, bne_iff_ne, ne_eq, beq_eq_false_iff_ne, bne_eq_false_iff_eq, gt_iff_lt, ge_iff_le, Int.not_lt, Int.not_le] at hc91
              refine c_seq (fun K41 hK41 => ?_)
              refine c_reg ?_ -- region 26 syntaxm.go:332
              refine wl (ro_assign rfl) ?_
              refine wl_nil (x_then (hK41 _ _ ?_))
              clear hK41 K41
              refine c_ret (x_thenR (x_thenR ?_))
              refine bp_ret Tryz.results157 rfl ?_
              exact hE5.mr
            · try simp only [decide_eq_true_eq, decide_eq_false_iff_not, Bool.not_eq_true', Bool.not_eq_false', Bool.not_eq_eq_eq_not, Bool.not_true, Bool.not_false, beq_iff_eq, bne_iff_ne, ne_eq, beq_eq_false_iff_ne, bne_eq_false_iff_eq, gt_iff_lt, ge_iff_le, Int.not_lt, Int.not_le] at hc91
              omega
          · skip
            refine c_reg ?_ -- region 23 syntaxm.go:329
            refine wl (ro_move rfl) ?_
            refine wl_call rfl en_209 (hS3.name (x := 2) hNK2 (by decide)) ?_
            rintro _ u4 ⟨rfl, hS4⟩
            have hk3 := hNK2.1
            have ha3 := adv_len' (s := s2.adv) (by omega)
            have hal3 : s.al + 2 ≤ 12 := by have := hNK2.2; have : s2.adv.al = s2.al := rfl; omega
            refine wl (ro_move rfl) ?_
            refine wl (ro_extract rfl rfl) ?_
            refine wl (ro_extract rfl rfl) ?_
            refine wl (ro_assign rfl) ?_
            refine wl (ro_assign rfl) ?_
            refine wl_nil (x_then (hK37 _ _ ?_))
            clear hK37 K37
            refine forget [(0, _), (1, _), (8, _), (9, _), (10, _), (11, _)] ⟨rfl, rfl, rfl, rfl, rfl, rfl, trivial⟩ (fun e => ?_)
            refine c_seq (fun K42 hK42 => ?_)
            by_cases hk38 : s2.adv.adv.k = 38
            · skip
              rw [if_pos hk38] at hR
              refine c_reg ?_ -- region 24 syntaxm.go:330
              refine wl (ro_move rfl) ?_
              refine wl_call rfl en_211 (hS4.want (k := 38) (by decide) (by decide) (by omega) hk38) ?_
              rintro _ u5 ⟨rfl, hS5⟩
              have ha4 := adv_len' (s := s2.adv.adv) (by omega)
              have e51 : s2.adv.adv.adv.al = s2.al := rfl
              generalize e5 : s2.adv.adv.adv = s5 at hR hS5 ha4 e51
              obtain ⟨pos5, hX5, hpos5⟩ := hS5.a.v.ex
              unfold mpc at hX5
              refine wl_nil (x_then (hK42 _ _ ?_))
              clear hK42 K42
              refine c_seq (fun K43 hK43 => ?_)
              refine c_seq (fun K44 hK44 => ?_)
              refine c_reg ?_ -- region 25 syntaxm.go:331
              refine wl (ro_move rfl) ?_
              refine wl (ro_nilCheck rfl) ?_
              refine wl (ro_fieldAddr (k := 9) rfl fo_146_5) ?_
              refine wl (ro_loadB rfl sc_54 (by assumption) rfl) ?_
              refine wl (ro_cmp rfl rfl rfl) ?_
              refine wl_nil (x_then (hK44 _ _ ?_))
              clear hK44 K44
              refine wc_cond rfl (fun hc91 => ?_) (fun hc91 => ?_)
              · try simp only [decide_eq_true_eq, decide_eq_false_iff_not, Bool.not_eq_true', Bool.not_eq_false', Bool.not_eq_eq_eq_not, Bool.not_true, Bool.not_false, beq_iff_eq, bne_iff_ne, ne_eq, beq_eq_false_iff_ne, bne_eq_false_iff_eq, gt_iff_lt, ge_iff_le, Int.not_lt, Int.not_le] at hc91
                exact absurd rfl hc91
              · try simp only [decide_eq_true_eq, decide_eq_false_iff_not, Bool.not_eq_true', Bool.not_eq_false', Bool.not_eq_eq_eq_not, Bool.not_true, Bool.not_false, beq_iff_eq, bne_iff_ne, ne_eq, beq_eq_false_iff_ne, bne_eq_false_iff_eq, gt_iff_lt, ge_iff_le, Int.not_lt, Int.not_le] at hc91
                refine c_skip (x_then (hK43 _ _ ?_))
                clear hK43 K43
                refine forget [(0, _), (1, _), (8, _), (9, _), (10, _), (11, _)] ⟨rfl, rfl, rfl, rfl, rfl, rfl, trivial⟩ (fun e => ?_)
                refine c_seq (fun K45 hK45 => ?_)
                refine c_reg ?_ -- region 27 syntaxm.go:334
                refine wl (ro_move rfl) ?_
                refine wl (ro_move rfl) ?_
                refine wl (ro_move rfl) ?_
                refine wl (ro_build rfl bld_148_0_6_7) ?_
                refine wl_call rfl en_162 (hS5.add (x := (⟨17, 0, 0, 0, 0, 0, s.adv.cur.s⟩, s.adv.cur.pl)) (by omega)) ?_
                rintro _ u6 ⟨rfl, U6, hS6⟩
                refine wl (ro_assign rfl) ?_
                refine wl_nil (x_then (hK45 _ _ ?_))
                clear hK45 K45
                refine forget [(0, _), (1, _), (9, _), (10, _), (11, _), (12, _)] ⟨rfl, rfl, rfl, rfl, rfl, rfl, trivial⟩ (fun e => ?_)
                refine c_seq (fun K46 hK46 => ?_)
                refine c_reg ?_ -- region 28 syntaxm.go:335
                refine wl (ro_move rfl) ?_
                refine wl (ro_move rfl) ?_
                refine wl (ro_move rfl) ?_
                refine wl (ro_build rfl bld_148_0_6_7) ?_
                refine wl_call rfl en_162 (hS6.add (x := (⟨17, 0, 0, 0, 0, 0, s2.adv.cur.s⟩, s2.adv.cur.pl)) (by rw [List.length_append]; simp only [List.length_cons, List.length_nil]; omega)) ?_
                rintro _ u7 ⟨e7, U7, hS7⟩
                have l7 : (G ++ [((⟨17, 0, 0, 0, 0, 0, s.adv.cur.s⟩ : Nd), s.adv.cur.pl)]).length = G.length + 1 := by simp
                rw [l7] at e7
                subst e7
                have m7 := lk2 (G := G) (a := s.adv.cur.s) (b := s2.adv.cur.s) (p := s.adv.cur.pl) (q := s2.adv.cur.pl)
                have l7 : (G ++ [((⟨17, 0, 0, 0, 0, 0, s.adv.cur.s⟩ : Nd), s.adv.cur.pl)] ++ [((⟨17, 0, 0, 0, 0, 0, s2.adv.cur.s⟩ : Nd), s2.adv.cur.pl)]).length = G.length + 2 := by simp
                generalize (G ++ [((⟨17, 0, 0, 0, 0, 0, s.adv.cur.s⟩ : Nd), s.adv.cur.pl)] ++ [((⟨17, 0, 0, 0, 0, 0, s2.adv.cur.s⟩ : Nd), s2.adv.cur.pl)]) = G7 at hS7 m7 l7
                obtain ⟨g7, cap7, c7, e7, hO7⟩ := hS7.a.open (by omega)
                subst e7
                obtain ⟨pos7, hX7, hpos7⟩ := hS7.a.v.ex
                unfold mpc at hX7
                have hB7 := hO7.b
                have hne7 := hO7.ne
                have hL7 : Fram (one g7) u7 u7 := Fram.refl _ _
                have hg7 : one g7 g7 := rfl
                refine wl (ro_assign rfl) ?_
                refine wl_nil (x_then (hK46 _ _ ?_))
                clear hK46 K46
                refine forget [(0, _), (1, _), (9, _), (12, _), (13, _)] ⟨rfl, rfl, rfl, rfl, rfl, trivial⟩ (fun e => ?_)
                refine c_seq (fun K47 hK47 => ?_)
                refine c_reg ?_ -- region 29 syntaxm.go:336
                refine wl (ro_move rfl) ?_
                refine wl (ro_nilCheck rfl) ?_
                refine wl (ro_fieldAddr (k := 8) rfl fo_146_4) ?_
                refine wl (ro_loadB rfl sc_77 (by assumption) rfl) ?_
                refine wl (ro_move rfl) ?_
                refine wl (ro_move rfl) ?_
                refine wl (ro_indexAddr (et := 148) (k := 8) rfl rfl se_77 (rfl) ((by omega))) ?_
                refine wl (ro_fieldAddr (k := 4) rfl fo_148_4) ?_
                refine wl_put rfl rfl rfl sz_3 hB7 ((by have := hO7.k3; have := hO7.k1; omega)) (rfl) (fun w2 hB7 F2 => ?_)
                replace hX7 := F2.blkO hX7 (by omega)
                replace hL7 := hL7.thenDrew.thenO F2 (by first | exact .inr (by omega) | exact .inl rfl | exact .inl (by assumption) | assumption)
                refine wl_nil (x_then (hK47 _ _ ?_))
                clear hK47 K47
                refine forget [(0, _), (1, _), (9, _), (12, _)] ⟨rfl, rfl, rfl, rfl, trivial⟩ (fun e => ?_)
                refine c_seq (fun K48 hK48 => ?_)
                rcases bdP_some hR with ⟨⟨ee, pp⟩, hq, rfl⟩ | ⟨t1, s1, hq, hR⟩
                · skip
                  have hS8 := hS7.link hO7 (by omega) hB7 hL7
                  have l8 : (lkG G7 G.length (G.length + 1)).length = G.length + 2 := by rw [lkG_len]; exact l7
                  generalize lkG G7 G.length (G.length + 1) = G8 at hS8 m7 l8
                  refine c_reg ?_ -- region 30 syntaxm.go:337
                  refine wl (ro_move rfl) ?_
                  refine wl (ro_move rfl) ?_
                  refine wl (ro_arith rfl rfl rfl (Go.IntWalk.i64_in _ (by omega))) ?_
                  refine wl_call rfl en_160 (hS8.xE ih hlv (by omega) hq) ?_
                  rintro v u9 ⟨⟨z, rfl⟩, hE9⟩
                  obtain ⟨np', src', pos', t', U', al', lo', fu', hXe, h3⟩ := hE9.blk
                  unfold mpc at hXe
                  refine wl (ro_assign rfl) ?_
                  refine wl_nil (x_then (hK48 _ _ ?_))
                  clear hK48 K48
                  refine c_seq (fun K49 hK49 => ?_)
                  refine c_seq (fun K50 hK50 => ?_)
                  refine c_reg ?_ -- region 31 syntaxm.go:338
                  refine wl (ro_move rfl) ?_
                  refine wl (ro_nilCheck rfl) ?_
                  refine wl (ro_fieldAddr (k := 9) rfl fo_146_5) ?_
                  refine wl (ro_loadB rfl sc_54 (by assumption) rfl) ?_
                  refine wl (ro_cmp rfl rfl rfl) ?_
                  refine wl_nil (x_then (hK50 _ _ ?_))
                  clear hK50 K50
                  refine wc_cond rfl (fun hc118 => ?_) (fun hc118 => ?_)
                  · try simp only [decide_eq_true_eq, decide_eq_false_iff_not, Bool.not_eq_true', Bool.not_eq_false', Bool.not_eq_eq_eq_not, Bool.not_true, Bool.not_false, beq_iff_eq, bne_iff_ne, ne_eq, beq_eq_false_iff_ne, bne_eq_false_iff_eq, gt_iff_lt, ge_iff_le, Int.not_lt, Int.not_le] at hc118
                    refine c_seq (fun K51 hK51 => ?_)
                    refine c_reg ?_ -- region 32 syntaxm.go:339
                    refine wl (ro_assign rfl) ?_
                    refine wl_nil (x_then (hK51 _ _ ?_))
                    clear hK51 K51
                    refine c_ret (x_thenR (x_thenR ?_))
                    refine bp_ret Tryz.results157 rfl ?_
                    exact hE9.mr
                  · try simp only [decide_eq_true_eq, decide_eq_false_iff_not, Bool.not_eq_true', Bool.not_eq_false', Bool.not_eq_eq_eq_not, Bool.not_true, Bool.not_false, beq_iff_eq, bne_iff_ne, ne_eq, beq_eq_false_iff_ne, bne_eq_false_iff_eq, gt_iff_lt, ge_iff_le, Int.not_lt, Int.not_le] at hc118
                    omega
                · skip
                  have hS8 := hS7.link hO7 (by omega) hB7 hL7
                  have l8 : (lkG G7 G.length (G.length + 1)).length = G.length + 2 := by rw [lkG_len]; exact l7
                  generalize lkG G7 G.length (G.length + 1) = G8 at hS8 m7 l8
                  refine c_reg ?_ -- region 30 syntaxm.go:337
                  refine wl (ro_move rfl) ?_
                  refine wl (ro_move rfl) ?_
                  refine wl (ro_arith rfl rfl rfl (Go.IntWalk.i64_in _ (by omega))) ?_
                  refine wl_call rfl en_160 (hS8.xK ih hlv (by omega) hq) ?_
                  rintro v u9 ⟨U9, G9, rfl, hS9, m9, l9, q9, al9, b9⟩
                  obtain ⟨g9, cap9, c9, y9, e9, hO9, hi9, hc9, hK3, hK4, hK5⟩ := hS9.last q9.ly m9 l9 (by omega)
                  subst e9
                  obtain ⟨pos9, hX9, hpos9⟩ := hS9.a.v.ex
                  unfold mpc at hX9
                  have hB9 := hO9.b
                  have hne9 := hO9.ne
                  have hL9 : Fram (one mp) u9 u9 := Fram.refl _ _
                  have hmp : one mp mp := rfl
                  refine wl (ro_assign rfl) ?_
                  refine wl_nil (x_then (hK48 _ _ ?_))
                  clear hK48 K48
                  refine c_seq (fun K52 hK52 => ?_)
                  refine c_seq (fun K53 hK53 => ?_)
                  refine c_reg ?_ -- region 31 syntaxm.go:338
                  refine wl (ro_move rfl) ?_
                  refine wl (ro_nilCheck rfl) ?_
                  refine wl (ro_fieldAddr (k := 9) rfl fo_146_5) ?_
                  refine wl (ro_loadB rfl sc_54 (by assumption) rfl) ?_
                  refine wl (ro_cmp rfl rfl rfl) ?_
                  refine wl_nil (x_then (hK53 _ _ ?_))
                  clear hK53 K53
                  refine wc_cond rfl (fun hc118 => ?_) (fun hc118 => ?_)
                  · try simp only [decide_eq_true_eq, decide_eq_false_iff_not, Bool.not_eq_true', Bool.not_eq_false', Bool.not_eq_eq_eq_not, Bool.not_true, Bool.not_false, beq_iff_eq, bne_iff_ne, ne_eq, beq_eq_false_iff_ne, bne_eq_false_iff_eq, gt_iff_lt, ge_iff_le, Int.not_lt, Int.not_le] at hc118
                    exact absurd rfl hc118
                  · try simp only [decide_eq_true_eq, decide_eq_false_iff_not, Bool.not_eq_true', Bool.not_eq_false', Bool.not_eq_eq_eq_not, Bool.not_true, Bool.not_false, beq_iff_eq, bne_iff_ne, ne_eq, beq_eq_false_iff_ne, bne_eq_false_iff_eq, gt_iff_lt, ge_iff_le, Int.not_lt, Int.not_le] at hc118
                    refine c_skip (x_then (hK52 _ _ ?_))
                    clear hK52 K52
                    refine c_seq (fun K54 hK54 => ?_)
                    refine c_seq (fun K55 hK55 => ?_)
                    by_cases h5 : t1.c = 5
                    · skip
                      rw [if_pos h5] at hR
                      refine c_reg ?_ -- region 33 syntaxm.go:341
                      refine wl (ro_move rfl) ?_
                      refine wl (ro_nilCheck rfl) ?_
                      refine wl (ro_fieldAddr (k := 8) rfl fo_146_4) ?_
                      refine wl (ro_loadB rfl sc_77 (by assumption) rfl) ?_
                      refine wl (ro_move rfl) ?_
                      refine wl (ro_indexAddr (et := 148) (k := 8) rfl rfl se_77 (rfl) (hi9)) ?_
                      refine wl (ro_fieldAddr (k := 0) rfl fo_148_0) ?_
                      refine wl (ro_loadB rfl sc_3 (hB9) ((row_cell (k := 8) (j := 0) hc9 rfl))) ?_
                      refine wl (ro_cmp (r := false) rfl rfl (congrArg some (bne_eq_false_iff_eq.2 (by show (y9.1.K : Int) = 19; omega)))) ?_
                      refine wl_nil (x_then (hK55 _ _ ?_))
                      clear hK55 K55
                      refine wc_condF rfl ?_
                      refine c_skip (x_then (hK54 _ _ ?_))
                      clear hK54 K54
                      refine forget [(0, _), (9, _), (12, _), (14, _)] ⟨rfl, rfl, rfl, rfl, trivial⟩ (fun e => ?_)
                      refine c_seq (fun K56 hK56 => ?_)
                      refine c_reg ?_ -- region 36 syntaxm.go:345
                      refine wl (ro_move rfl) ?_
                      refine wl (ro_move rfl) ?_
                      refine wl (ro_nilCheck rfl) ?_
                      refine wl (ro_fieldAddr (k := 11) rfl fo_146_7) ?_
                      refine wl (ro_loadB rfl sc_3 (by assumption) rfl) ?_
                      refine wl (ro_arith rfl rfl rfl (Go.IntWalk.i64_in _ (by omega))) ?_
                      refine wl (ro_nilCheck rfl) ?_
                      refine wl (ro_fieldAddr (k := 11) rfl fo_146_7) ?_
                      refine wl_put rfl rfl rfl sz_3 hX9 (by simp) (rfl) (fun w3 hX9 F3 => ?_)
                      replace hB9 := F3.blkO hB9 (by omega)
                      replace hL9 := hL9.thenDrew.thenO F3 (by first | exact .inr (by omega) | exact .inl rfl | exact .inl (by assumption) | assumption)
                      refine wl_nil (x_then (hK56 _ _ ?_))
                      clear hK56 K56
                      refine forget [(0, _), (9, _), (12, _), (14, _)] ⟨rfl, rfl, rfl, rfl, trivial⟩ (fun e => ?_)
                      refine c_seq (fun K57 hK57 => ?_)
                      have hal10 : s1.al + 2 ≤ 12 := by omega
                      have hM10 : MV _ mp np src (.slice (some ⟨g9, 0, none⟩) G9.length cap9) { s1 with al := s1.al + 2 } := ⟨⟨pos9, hX9, hpos9⟩, hS9.a.v.sx, hS9.a.v.ne, hal10, hS9.a.v.lo, hS9.a.v.fu, hS9.a.v.sl⟩
                      have hS10 := hS9.setA hal10 hM10 hL9
                      refine c_reg ?_ -- region 37 syntaxm.go:346
                      refine wl (ro_move rfl) ?_
                      refine wl (ro_move rfl) ?_
                      refine wl (ro_move rfl) ?_
                      refine wl (ro_move rfl) ?_
                      refine wl (ro_build rfl bld_148_0_1_2_7) ?_
                      refine wl_call rfl en_162 (hS10.add (x := (⟨2, G.length, rt t1 G8.length, 0, 0, 0, []⟩, s.adv.cur.pl)) (by show G9.length + 1 + 3 * s1.len ≤ 10000; omega)) ?_
                      rintro _ u11 ⟨rfl, U11, hS11⟩
                      refine wl (ro_assign rfl) ?_
                      refine wl_nil (x_then (hK57 _ _ ?_))
                      clear hK57 K57
                      refine c_ret (x_thenR ?_)
                      refine bp_ret Tryz.results157 rfl ?_
                      cases okP_inj hR
                      obtain ⟨f9, z9, rfl, _, _⟩ := q9.top.2.2 h5
                      have en9 : ndT (Ex.call f9 z9) = 1 + ndT f9 + ndT z9 := rfl
                      have er9 : rt (Ex.call f9 z9) G8.length = G8.length + ndT (Ex.call f9 z9) - 1 := rfl
                      refine hS11.fin ?_ ?_ ?_
                      · rw [List.map_append, m9, m7, show (Ex.call f9 z9).ks.headD dumT = f9 from rfl, show (Ex.call f9 z9).ks.getD 1 dumT = z9 from rfl, lay_loc2, l8]
                        rw [show G.length + 2 + ndT f9 + ndT z9 = rt (Ex.call f9 z9) (G.length + 2) by rw [l8] at er9; omega]
                        simp only [List.append_assoc]
                        rfl
                      · rw [List.length_append]
                        show _ = G.length + (4 + ndT f9 + ndT z9)
                        simp only [List.length_cons, List.length_nil]
                        omega
                      · show _ = G.length + (4 + ndT f9 + ndT z9) - 1
                        omega
                    · skip
                      rw [if_neg h5] at hR
                      cases failP_inj hR
                      refine c_reg ?_ -- region 33 syntaxm.go:341
                      refine wl (ro_move rfl) ?_
                      refine wl (ro_nilCheck rfl) ?_
                      refine wl (ro_fieldAddr (k := 8) rfl fo_146_4) ?_
                      refine wl (ro_loadB rfl sc_77 (by assumption) rfl) ?_
                      refine wl (ro_move rfl) ?_
                      refine wl (ro_indexAddr (et := 148) (k := 8) rfl rfl se_77 (rfl) (hi9)) ?_
                      refine wl (ro_fieldAddr (k := 0) rfl fo_148_0) ?_
                      refine wl (ro_loadB rfl sc_3 (hB9) ((row_cell (k := 8) (j := 0) hc9 rfl))) ?_
                      refine wl (ro_cmp (r := true) rfl rfl (congrArg some (bne_iff_ne.2 (by show (y9.1.K : Int) ≠ 19; omega)))) ?_
                      refine wl_nil (x_then (hK55 _ _ ?_))
                      clear hK55 K55
                      refine wc_condT rfl ?_
                      refine c_seq (fun K58 hK58 => ?_)
                      refine c_reg ?_ -- region 34 syntaxm.go:342
                      refine wl (ro_move rfl) ?_
                      refine wl_call rfl en_50 (hS9.fail (c := 15) (by decide) (by omega)) ?_
                      rintro _ u10 ⟨rfl, hE10⟩
                      refine wl_nil (x_then (hK58 _ _ ?_))
                      clear hK58 K58
                      refine forget [] trivial (fun e => ?_)
                      refine c_seq (fun K59 hK59 => ?_)
                      refine c_reg ?_ -- region 35 syntaxm.go:343
                      refine wl (ro_assign rfl) ?_
                      refine wl_nil (x_then (hK59 _ _ ?_))
                      clear hK59 K59
                      refine c_ret (x_thenR (x_thenR ?_))
                      refine bp_ret Tryz.results157 rfl ?_
                      exact hE10.mr
            · skip
              rw [if_neg hk38] at hR
              cases failP_inj hR
              refine c_reg ?_ -- region 24 syntaxm.go:330
              refine wl (ro_move rfl) ?_
              refine wl_call rfl en_211 (hS4.wantN (k := 38) (by decide) (by decide) (by omega) hk38) ?_
              rintro _ u5 ⟨rfl, hE5⟩
              obtain ⟨np', src', pos', t', U', al', lo', fu', hXe, h3⟩ := hE5.blk
              unfold mpc at hXe
              refine wl_nil (x_then (hK42 _ _ ?_))
              clear hK42 K42
              refine c_seq (fun K60 hK60 => ?_)
              refine c_seq (fun K61 hK61 => ?_)
              refine c_reg ?_ -- region 25 syntaxm.go:331
              refine wl (ro_move rfl) ?_
              refine wl (ro_nilCheck rfl) ?_
              refine wl (ro_fieldAddr (k := 9) rfl fo_146_5) ?_
              refine wl (ro_loadB rfl sc_54 (by assumption) rfl) ?_
              refine wl (ro_cmp rfl rfl rfl) ?_
              refine wl_nil (x_then (hK61 _ _ ?_))
              clear hK61 K61
              refine wc_cond rfl (fun hc91 => ?_) (fun hc91 => ?_)
              · try simp only [decide_eq_true_eq, decide_eq_false_iff_not, Bool.not_eq_true', Bool.not_eq_false', Bool.not_eq_eq_eq_not, Bool.not_true, Bool.not_false, beq_iff_eq, bne_iff_ne, ne_eq, beq_eq_false_iff_ne, bne_eq_false_iff_eq, gt_iff_lt, ge_iff_le, Int.not_lt, Int.not_le] at hc91
                refine c_seq (fun K62 hK62 => ?_)
                refine c_reg ?_ -- region 26 syntaxm.go:332
                refine wl (ro_assign rfl) ?_
                refine wl_nil (x_then (hK62 _ _ ?_))
                clear hK62 K62
                refine c_ret (x_thenR (x_thenR ?_))
                refine bp_ret Tryz.results157 rfl ?_
                exact hE5.mr
              · try simp only [decide_eq_true_eq, decide_eq_false_iff_not, Bool.not_eq_true', Bool.not_eq_false', Bool.not_eq_eq_eq_not, Bool.not_true, Bool.not_false, beq_iff_eq, bne_iff_ne, ne_eq, beq_eq_false_iff_ne, bne_eq_false_iff_eq, gt_iff_lt, ge_iff_le, Int.not_lt, Int.not_le] at hc91
                omega
        · try simp only [decide_eq_true_eq, decide_eq_false_iff_not, Bool.not_eq_true', Bool.not_eq_false', Bool.not_eq_eq_eq_not, Bool.not_true, Bool.not_false, beq_iff_eq, bne_iff_ne, ne_eq, beq_eq_false_iff_ne, bne_eq_false_iff_eq, gt_iff_lt, ge_iff_le, Int.not_lt, Int.not_le] at hc77
          rw [if_neg (by omega)] at hR
          refine c_skip (x_then (hK34 _ _ ?_))
          clear hK34 K34
          refine forget [(0, _), (1, _), (8, _), (9, _)] ⟨rfl, rfl, rfl, rfl, trivial⟩ (fun e => ?_)
          refine c_seq (fun K63 hK63 => ?_)
          refine c_reg ?_ -- region 38 syntaxm.go:348
          refine wl (ro_assign rfl) ?_
          refine wl_nil (x_then (hK63 _ _ ?_))
          clear hK63 K63
          refine c_seq (fun K64 hK64 => ?_)
          refine c_seq (fun K65 hK65 => ?_)
          refine c_reg ?_ -- region 39 syntaxm.go:349
          refine wl (ro_move rfl) ?_
          refine wl_call rfl en_156 (hS2.is (k := 38) (by decide) (by decide)) ?_
          rintro _ w9 ⟨rfl, e9⟩
          replace e9 := e9.symm
          subst e9
          refine wl_nil (x_then (hK65 _ _ ?_))
          clear hK65 K65
          refine wc_cond rfl (fun hc145 => ?_) (fun hc145 => ?_)
          · try simp only [decide_eq_true_eq, decide_eq_false_iff_not, Bool.not_eq_true', Bool.not_eq_false', Bool.not_eq_eq_eq_not, Bool.not_true, Bool.not_false, beq_iff_eq, bne_iff_ne, ne_eq, beq_eq_false_iff_ne, bne_eq_false_iff_eq, gt_iff_lt, ge_iff_le, Int.not_lt, Int.not_le] at hc145
            rw [if_pos (by omega)] at hR
            have ha2 := adv_len' (s := s2) (by omega)
            refine c_seq (fun K66 hK66 => ?_)
            refine c_reg ?_ -- region 40 syntaxm.go:350
            refine wl (ro_move rfl) ?_
            refine wl_call rfl en_48 (hS2.next (by omega)) ?_
            rintro _ u3 ⟨rfl, hS3⟩
            refine wl_nil (x_then (hK66 _ _ ?_))
            clear hK66 K66
            refine forget [(0, _), (1, _), (8, _), (9, _)] ⟨rfl, rfl, rfl, rfl, trivial⟩ (fun e => ?_)
            refine c_seq (fun K67 hK67 => ?_)
            rcases bdP_some hR with ⟨⟨ee, pp⟩, hq, rfl⟩ | ⟨t1, s1, hq, hR⟩
            · skip
              refine c_reg ?_ -- region 41 syntaxm.go:351
              refine wl (ro_move rfl) ?_
              refine wl (ro_move rfl) ?_
              refine wl (ro_arith rfl rfl rfl (Go.IntWalk.i64_in _ (by omega))) ?_
              refine wl_call rfl en_160 (hS3.xE ih hlv (by omega) hq) ?_
              rintro v u9 ⟨⟨z, rfl⟩, hE9⟩
              obtain ⟨np', src', pos', t', U', al', lo', fu', hXe, h3⟩ := hE9.blk
              unfold mpc at hXe
              refine wl (ro_assign rfl) ?_
              refine wl_nil (x_then (hK67 _ _ ?_))
              clear hK67 K67
              refine forget [(0, _), (8, _), (9, _), (15, _)] ⟨rfl, rfl, rfl, rfl, trivial⟩ (fun e => ?_)
              refine c_seq (fun K68 hK68 => ?_)
              refine c_reg ?_ -- region 42 syntaxm.go:352
              refine wl (ro_move rfl) ?_
              refine wl (ro_nilCheck rfl) ?_
              refine wl (ro_fieldAddr (k := 9) rfl fo_146_5) ?_
              refine wl (ro_loadB rfl sc_54 (by assumption) rfl) ?_
              refine wl (ro_cmp rfl rfl rfl) ?_
              refine wl_nil (x_then (hK68 _ _ ?_))
              clear hK68 K68
              refine wc_cond rfl (fun hc156 => ?_) (fun hc156 => ?_)
              · try simp only [decide_eq_true_eq, decide_eq_false_iff_not, Bool.not_eq_true', Bool.not_eq_false', Bool.not_eq_eq_eq_not, Bool.not_true, Bool.not_false, beq_iff_eq, bne_iff_ne, ne_eq, beq_eq_false_iff_ne, bne_eq_false_iff_eq, gt_iff_lt, ge_iff_le, Int.not_lt, Int.not_le] at hc156
                refine c_seq (fun K69 hK69 => ?_)
                refine c_reg ?_ -- region 43 syntaxm.go:353
                refine wl (ro_assign rfl) ?_
                refine wl_nil (x_then (hK69 _ _ ?_))
                clear hK69 K69
                refine c_ret (x_thenR ?_)
                refine bp_ret Tryz.results157 rfl ?_
                exact hE9.mr
              · try simp only [decide_eq_true_eq, decide_eq_false_iff_not, Bool.not_eq_true', Bool.not_eq_false', Bool.not_eq_eq_eq_not, Bool.not_true, Bool.not_false, beq_iff_eq, bne_iff_ne, ne_eq, beq_eq_false_iff_ne, bne_eq_false_iff_eq, gt_iff_lt, ge_iff_le, Int.not_lt, Int.not_le] at hc156
                omega
            · skip
              refine c_reg ?_ -- region 41 syntaxm.go:351
              refine wl (ro_move rfl) ?_
              refine wl (ro_move rfl) ?_
              refine wl (ro_arith rfl rfl rfl (Go.IntWalk.i64_in _ (by omega))) ?_
              refine wl_call rfl en_160 (hS3.xK ih hlv (by omega) hq) ?_
              rintro v u9 ⟨U9, G9, rfl, hS9, m9, l9, q9, al9, b9⟩
              obtain ⟨pos9, hX9, hpos9⟩ := hS9.a.v.ex
              unfold mpc at hX9
              have hL9 : Fram (one mp) u9 u9 := Fram.refl _ _
              have hmp : one mp mp := rfl
              have al9' : s1.al = s2.al := al9
              cases okP_inj hR
              refine wl (ro_assign rfl) ?_
              refine wl_nil (x_then (hK67 _ _ ?_))
              clear hK67 K67
              refine forget [(0, _), (8, _), (9, _), (15, _)] ⟨rfl, rfl, rfl, rfl, trivial⟩ (fun e => ?_)
              refine c_seq (fun K70 hK70 => ?_)
              refine c_reg ?_ -- region 42 syntaxm.go:352
              refine wl (ro_move rfl) ?_
              refine wl (ro_nilCheck rfl) ?_
              refine wl (ro_fieldAddr (k := 9) rfl fo_146_5) ?_
              refine wl (ro_loadB rfl sc_54 (by assumption) rfl) ?_
              refine wl (ro_cmp rfl rfl rfl) ?_
              refine wl_nil (x_then (hK70 _ _ ?_))
              clear hK70 K70
              refine wc_cond rfl (fun hc156 => ?_) (fun hc156 => ?_)
              · try simp only [decide_eq_true_eq, decide_eq_false_iff_not, Bool.not_eq_true', Bool.not_eq_false', Bool.not_eq_eq_eq_not, Bool.not_true, Bool.not_false, beq_iff_eq, bne_iff_ne, ne_eq, beq_eq_false_iff_ne, bne_eq_false_iff_eq, gt_iff_lt, ge_iff_le, Int.not_lt, Int.not_le] at hc156
                exact absurd rfl hc156
              · try simp only [decide_eq_true_eq, decide_eq_false_iff_not, Bool.not_eq_true', Bool.not_eq_false', Bool.not_eq_eq_eq_not, Bool.not_true, Bool.not_false, beq_iff_eq, bne_iff_ne, ne_eq, beq_eq_false_iff_ne, bne_eq_false_iff_eq, gt_iff_lt, ge_iff_le, Int.not_lt, Int.not_le] at hc156
                refine c_skip (x_then (hK64 _ _ ?_))
                clear hK64 K64
                refine forget [(0, _), (8, _), (9, _), (15, _)] ⟨rfl, rfl, rfl, rfl, trivial⟩ (fun e => ?_)
                refine c_seq (fun K71 hK71 => ?_)
                refine c_reg ?_ -- region 44 syntaxm.go:356
                refine wl (ro_move rfl) ?_
                refine wl (ro_nilCheck rfl) ?_
                refine wl (ro_fieldAddr (k := 11) rfl fo_146_7) ?_
                refine wl (ro_loadB rfl sc_3 (by assumption) rfl) ?_
                refine wl (ro_arith rfl rfl rfl (Go.IntWalk.i64_in _ (by omega))) ?_
                refine wl (ro_nilCheck rfl) ?_
                refine wl (ro_fieldAddr (k := 11) rfl fo_146_7) ?_
                refine wl_put rfl rfl rfl sz_3 hX9 (by simp) (rfl) (fun w4 hX9 F4 => ?_)
                replace hL9 := hL9.thenDrew.thenO F4 (by first | exact .inr (by omega) | exact .inl rfl | exact .inl (by assumption) | assumption)
                refine wl_nil (x_then (hK71 _ _ ?_))
                clear hK71 K71
                refine forget [(0, _), (8, _), (9, _), (15, _)] ⟨rfl, rfl, rfl, rfl, trivial⟩ (fun e => ?_)
                refine c_seq (fun K72 hK72 => ?_)
                have hal10 : s1.al + 1 ≤ 12 := by omega
                have hM10 : MV _ mp np src U9 { s1 with al := s1.al + 1 } := ⟨⟨pos9, hX9, hpos9⟩, hS9.a.v.sx, hS9.a.v.ne, hal10, hS9.a.v.lo, hS9.a.v.fu, hS9.a.v.sl⟩
                have hS10 := hS9.setA hal10 hM10 hL9
                refine c_reg ?_ -- region 45 syntaxm.go:357
                refine wl (ro_move rfl) ?_
                refine wl (ro_move rfl) ?_
                refine wl (ro_move rfl) ?_
                refine wl (ro_move rfl) ?_
                refine wl (ro_build rfl bld_148_0_6_1_7) ?_
                refine wl_call rfl en_162 (hS10.add (x := (⟨1, rt t1 G.length, 0, 0, 0, 0, s.adv.cur.s⟩, s.adv.cur.pl)) (by show G9.length + 1 + 3 * s1.len ≤ 10000; omega)) ?_
                rintro _ u11 ⟨rfl, U11, hS11⟩
                refine wl (ro_assign rfl) ?_
                refine wl_nil (x_then (hK72 _ _ ?_))
                clear hK72 K72
                refine c_ret ?_
                refine bp_ret Tryz.results157 rfl ?_
                refine hS11.fin ?_ ?_ ?_
                · rw [List.map_append, m9, lay_locV, List.append_assoc]
                  rfl
                · rw [List.length_append]
                  show _ = G.length + (1 + ndT t1)
                  simp only [List.length_cons, List.length_nil]
                  omega
                · show _ = G.length + (1 + ndT t1) - 1
                  omega
          · try simp only [decide_eq_true_eq, decide_eq_false_iff_not, Bool.not_eq_true', Bool.not_eq_false', Bool.not_eq_eq_eq_not, Bool.not_true, Bool.not_false, beq_iff_eq, bne_iff_ne, ne_eq, beq_eq_false_iff_ne, bne_eq_false_iff_eq, gt_iff_lt, ge_iff_le, Int.not_lt, Int.not_le] at hc145
            rw [if_neg (by omega)] at hR
            cases okP_inj hR
            have hL2 : Fram (one mp) u2 u2 := Fram.refl _ _
            have hmp : one mp mp := rfl
            refine c_skip (x_then (hK64 _ _ ?_))
            clear hK64 K64
            refine forget [(0, _), (8, _), (9, _), (15, _)] ⟨rfl, rfl, rfl, rfl, trivial⟩ (fun e => ?_)
            refine c_seq (fun K73 hK73 => ?_)
            refine c_reg ?_ -- region 44 syntaxm.go:356
            refine wl (ro_move rfl) ?_
            refine wl (ro_nilCheck rfl) ?_
            refine wl (ro_fieldAddr (k := 11) rfl fo_146_7) ?_
            refine wl (ro_loadB rfl sc_3 (by assumption) rfl) ?_
            refine wl (ro_arith rfl rfl rfl (Go.IntWalk.i64_in _ (by omega))) ?_
            refine wl (ro_nilCheck rfl) ?_
            refine wl (ro_fieldAddr (k := 11) rfl fo_146_7) ?_
            refine wl_put rfl rfl rfl sz_3 hX2 (by simp) (rfl) (fun w5 hX2 F5 => ?_)
            replace hL2 := hL2.thenDrew.thenO F5 (by first | exact .inr (by omega) | exact .inl rfl | exact .inl (by assumption) | assumption)
            refine wl_nil (x_then (hK73 _ _ ?_))
            clear hK73 K73
            refine forget [(0, _), (8, _), (9, _), (15, _)] ⟨rfl, rfl, rfl, rfl, trivial⟩ (fun e => ?_)
            refine c_seq (fun K74 hK74 => ?_)
            have hal10 : s2.al + 1 ≤ 12 := by omega
            have hM10 : MV _ mp np src U { s2 with al := s2.al + 1 } := ⟨⟨pos2, hX2, hpos2⟩, hS2.a.v.sx, hS2.a.v.ne, hal10, hS2.a.v.lo, hS2.a.v.fu, hS2.a.v.sl⟩
            have hS10 := hS2.setA hal10 hM10 hL2
            refine c_reg ?_ -- region 45 syntaxm.go:357
            refine wl (ro_move rfl) ?_
            refine wl (ro_move rfl) ?_
            refine wl (ro_move rfl) ?_
            refine wl (ro_move rfl) ?_
            refine wl (ro_build rfl bld_148_0_6_1_7) ?_
            refine wl_call rfl en_162 (hS10.add (x := (⟨1, 0, 0, 0, 0, 0, s.adv.cur.s⟩, s.adv.cur.pl)) (by show G.length + 1 + 3 * s2.len ≤ 10000; omega)) ?_
            rintro _ u11 ⟨rfl, U11, hS11⟩
            refine wl (ro_assign rfl) ?_
            refine wl_nil (x_then (hK74 _ _ ?_))
            clear hK74 K74
            refine c_ret ?_
            refine bp_ret Tryz.results157 rfl ?_
            refine hS11.fin ?_ ?_ ?_
            · rw [List.map_append]
              rfl
            · rw [List.length_append]
              rfl
            · rfl
end Go.Proofs.Qxb6500568aGreatDoor
