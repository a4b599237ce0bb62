import Derived.Test.Qxb6500568aGreatDoorVb
import Derived.Test.Qxb6500568aGreatDoorSq
import Derived.Test.Qxb6500568aGreatDoorSr
/- The real parser's door: Parse. -/
namespace Go.Proofs.Qxb6500568aGreatDoor
open Ieee
set_option linter.unusedVariables false
set_option linter.unusedSimpArgs false

section
variable {P : Program} {n : Nat} {e : Nat → Option Value} {ops : Array Oper} {w : World} {Q : Exit → Act → World → Prop} {rest : List Oper} {d : Nat} {ty : TypeId} {ps : String} {af : Array Edge} {ds : List Deferred}
theorem wl_copyL {t t' et k g od dLen dCap b os sLen sCap m : Nat} {x y : Operand} {l l2 cs : List Value} {t1 t2 : TypeId} (hx : evO n e x = some (.slice (some ⟨g, od, none⟩) dLen dCap)) (hy : evO n e y = some (.slice (some ⟨b, os, none⟩) sLen sCap)) (ht : selB P t et k = true)
    (hB : Blk w.heap g l t1) (hB2 : Blk w.heap b l2 t2) (hm : Nat.min sLen dLen = m) (hn : (l2.drop os).take (m * k) = cs) (hl : cs.length = m * k) (h1 : ∀ u ∈ cs, u.oneCell' = true) (hfit : od + m * k ≤ l.length)
    (K : ∀ w1, Blk w1.heap g (l.take od ++ cs ++ l.drop (od + m * k)) t1 → Fram (one g) w w1 → WL P ops Q rest (Fr n (upd e d (i64c m)) ds) w1) :
    WL P ops Q (⟨some d, .call ⟨.builtin .copy, #[x, y], #[t, t']⟩, ty, ps, af, none⟩ :: rest) (Fr n e ds) w :=
  wle (eo_copy hx hy ht hB hB2 hm hn hl h1 hfit) (K _ (hB.set _) (set_fram hB _))
end
/-- what the parser's two buffers hold between calls. -/
def TkR (n : Nat) (xs : List Value) : Prop := n = 0 ∨ ∃ s : Str, s.length ≤ 2048 ∧ n = (toks s).length ∧ xs = rws tkc (toks s)
def NdR (n : Nat) (xs : List Value) : Prop := n = 0 ∨ ∃ (G : List (Nd × Nat)) (t : Tr) (k : Nat), TrOK t k ∧ n = G.length ∧ xs = rws ndc G ∧ G.map Prod.fst = arena t ∧ G.length = ndT t + 1 ∧ G.length ≤ 2049 ∧ ∃ y r, G = (y, 0) :: r
/-- The parser at rest. -/
def SyV (w : World) (ow : Nat → Nat) (sb : Nat) : Prop := ∃ np V N n0 xs0 n1 xs1, Blk w.heap sb [np, V, N] 79 ∧ ow sb = 60 ∧ OwT w ow 61 V 182 5 n0 xs0 ∧ OwT w ow 62 N 148 8 n1 xs1 ∧ TkR n0 xs0 ∧ NdR n1 xs1
def syT : Nat → Prop := fun t => t = 60 ∨ t = 61 ∨ t = 62
/-- A tree of the arena's nodes in memory. -/
structure TreeV (w : World) (ow : Nat → Nat) (tb : Nat) (t : Tr) : Prop where
  ex : ∃ V G, Blk w.heap tb [V, i64c (rt t 1)] 107 ∧ OwT w ow 67 V 148 8 (ndT t + 1) (rws ndc G) ∧ G.map Prod.fst = arena t ∧ G.length = ndT t + 1
  tg : ow tb = 67
/-- What Parse answers. -/
def PrsR (s : Str) (w' : World) (ow' : Nat → Nat) (r : Value) : Prop := match prsV s with
  | .inl (e, p) => r = .tuple #[.pointer none, i64c e, i64c p]
  | .inr (t, k) => ∃ tb, r = .tuple #[ptr tb, i64c 0, i64c 0] ∧ TreeV w' ow' tb t
theorem rws_oneC {α : Type} {enc : α → List Value} (h : ∀ x, ∀ u ∈ enc x, u.oneCell' = true) (L : List α) : ∀ u ∈ rws enc L, u.oneCell' = true := fun u hu => by
  unfold rws at hu
  obtain ⟨x, _, hx⟩ := List.mem_flatMap.1 hu
  exact h x u hx
theorem pre10 {cs : List Value} {a b : Value} (h : cs.length = 10) : (cs ++ [a, b])[0 + 10]? = some a ∧ (cs ++ [a, b])[0 + 11]? = some b := by
  constructor
  · rw [List.getElem?_append_right (by omega), h]; rfl
  · rw [List.getElem?_append_right (by omega), h]; rfl
set_option maxHeartbeats 8000000 in
theorem Parse34 {w : World} {ow : Nat → Nat} {sb : Nat} {s : Str} (hS : SyV w ow sb) (hG : GV w ow) : Ret Tryz.prog 34 [ptr sb, S s] w (fun r w' => ∃ ow', Xt w ow ow' ∧ SyV w' ow' sb ∧ Fram (tg ow syT) w w' ∧ PrsR s w' ow' r) := by
  have hS0 := hS
  obtain ⟨np, V, N, n0, xs0, n1, xs1, hX, hsb, hV, hN, hTR, hNR⟩ := hS
  obtain ⟨na, nc, rfl⟩ := hN.form
  have hXl := hX.lt
  have hF : Fram (tg ow syT) w w := Fram.refl _ _
  have hmsb : tg ow syT sb := .inl hsb
  refine ret_of Tryz.func34 rfl Tryz.ntmps34 rfl ?_
  refine c_seq (fun K1 hK1 => ?_)
  refine c_reg ?_ -- region 0 syn.go:25
  refine wl (ro_assign rfl) ?_
  refine wl (ro_assign rfl) ?_
  refine wl (ro_assign rfl) ?_
  refine wl_nil (x_then (hK1 _ _ ?_))
  clear hK1 K1
  refine c_seq (fun K2 hK2 => ?_)
  refine c_seq (fun K3 hK3 => ?_)
  refine c_reg ?_ -- region 1 syn.go:26
  refine wl (ro_move rfl) ?_
  refine wl (ro_lenS rfl st_9) ?_
  refine wl (ro_cmp rfl rfl rfl) ?_
  refine wl_nil (x_then (hK3 _ _ ?_))
  clear hK3 K3
  refine wc_cond rfl (fun hc14 => ?_) (fun hc14 => ?_)
  · try simp only [decide_eq_true_eq, decide_eq_false_iff_not, Bool.not_eq_true', Bool.not_eq_false', Bool.not_eq_eq_eq_not, Bool.not_true, Bool.not_false, beq_iff_eq, bne_iff_ne, ne_eq, beq_eq_false_iff_ne, bne_eq_false_iff_eq, gt_iff_lt, ge_iff_le, Int.not_lt, Int.not_le] at hc14
    refine c_seq (fun K4 hK4 => ?_)
    refine c_reg ?_ -- region 2 syn.go:27
    refine wl (ro_assign rfl) ?_
    refine wl (ro_assign rfl) ?_
    refine wl (ro_assign rfl) ?_
    refine wl_nil (x_then (hK4 _ _ ?_))
    clear hK4 K4
    refine c_ret (x_thenR ?_)
    refine bp_ret Tryz.results34 rfl ?_
    refine ⟨ow, Xt.refl _ _, hS0, hF, ?_⟩
    unfold PrsR prsV
    rw [if_pos (by omega)]
    rfl
  · try simp only [decide_eq_true_eq, decide_eq_false_iff_not, Bool.not_eq_true', Bool.not_eq_false', Bool.not_eq_eq_eq_not, Bool.not_true, Bool.not_false, beq_iff_eq, bne_iff_ne, ne_eq, beq_eq_false_iff_ne, bne_eq_false_iff_eq, gt_iff_lt, ge_iff_le, Int.not_lt, Int.not_le] at hc14
    refine c_skip (x_then (hK2 _ _ ?_))
    clear hK2 K2
    refine forget [(0, _), (1, _)] ⟨rfl, rfl, trivial⟩ (fun e => ?_)
    refine c_seq (fun K5 hK5 => ?_)
    refine c_reg ?_ -- region 3 syn.go:29
    refine wl (ro_move rfl) ?_
    refine wl (ro_move rfl) ?_
    refine wl_call rfl en_75 (scan75 hX hsb hV hG (by omega)) ?_
    rintro _ u1 ⟨rfl, V1, ow1, hE1, hX1, hV1, F1⟩
    have hs48 : s.length ≤ 2048 := by omega
    have hlen := toks_len s
    obtain ⟨t0, ht0⟩ : ∃ t0, (toks s)[0]? = some t0 := ⟨_, List.getElem?_eq_getElem (List.length_pos_iff.2 (toks_ne s))⟩
    obtain ⟨tb, cap, l, rfl, hTb, k1, k2, k3, k4, k5⟩ := OwT.at tkc_len hV1 ht0
    have hsb1 : ow1 sb = 60 := by rw [hE1 sb hXl]; exact hsb
    have hts : tb ≠ sb := fun q => by rw [q, hsb1] at k4; omega
    have hG1 : GV u1 ow1 := hG.far F1 (fun b hb _ q => by have q : ow b = 60 ∨ ow b = 61 := q; omega) hE1
    have hN1 : OwT u1 ow1 62 (.slice na n1 nc) 148 8 n1 xs1 := hN.far F1 (fun b hb _ q => by have q : ow b = 60 ∨ ow b = 61 := q; omega) hE1
    have hF1 : Fram (tg ow syT) w u1 := hF.trans' F1 (fun b _ q => by have q : ow b = 60 ∨ ow b = 61 := q; rcases q with q | q; exact .inl q; exact .inr (.inl q))
    have htl := hTb.lt
    have hpos := List.length_pos_iff.2 (toks_ne s)
    have hz1 := hF1.size
    have hL : Fram none' u1 u1 := Fram.refl _ _
    refine wl_nil (x_then (hK5 _ _ ?_))
    clear hK5 K5
    refine forget [(0, _), (1, _)] ⟨rfl, rfl, trivial⟩ (fun e => ?_)
    refine c_seq (fun K6 hK6 => ?_)
    refine c_pi [(0, false), (1, false), (2, false), (3, false), (4, false), (5, false), (6, false), (7, false), (8, false), (9, false), (10, false), (11, true), (12, false)] (fun u => Blk u.heap sb [np, .slice (some ⟨tb, 0, none⟩) (toks s).length cap, .slice na n1 nc] 79 ∧ Blk u.heap tb l 182) mixed (by kernel_rfl) rfl (by kernel_rfl) (po_then (po_bp)) (⟨hX1, hTb⟩) ?_ -- region 4 syn.go:30
    refine pi_ro rfl (fun w hS => ro_move rfl) ?_
    refine pi_ro rfl (fun w hS => ro_nilCheck rfl) ?_
    refine pi_ro rfl (fun w hS => ro_fieldAddr (k := 1) rfl fo_79_1) ?_
    refine pi_ro rfl (fun w hS => ro_loadB rfl sc_76 (hS.1) rfl) ?_
    refine pi_ro rfl (fun w hS => ro_move rfl) ?_
    refine pi_ro rfl (fun w hS => ro_nilCheck rfl) ?_
    refine pi_ro rfl (fun w hS => ro_fieldAddr (k := 1) rfl fo_79_1) ?_
    refine pi_ro rfl (fun w hS => ro_loadB rfl sc_76 (hS.1) rfl) ?_
    refine pi_ro rfl (fun w hS => ro_indexAddr (et := 182) (k := 5) rfl rfl se_76 (rfl) (hpos)) ?_
    refine pi_ro rfl (fun w hS => ro_loadAggB rfl ag_182 (hS.2) ((tkc_len t0)) ((k5 0 t0 ht0))) ?_
    refine pi_ro rfl (fun w hS => ro_build rfl bld_186_0_2) ?_
    refine pi_box rfl rfl rfl (fun w1 F ↦ ⟨F.blkN hX1, F.blkN hTb⟩) ?_
    intro pb u2 hpb h29 F29'
    have hpb' : u1.heap.size ≤ pb := hpb
    have F29 : Fram none' u1 u2 := (Fram.refl none' u1).thenDrew.thenN F29'
    replace hX1 := F29.blkN hX1
    replace hTb := F29.blkN hTb
    have hF2 := hF1.thenN F29
    obtain ⟨ow2, how2⟩ : ∃ o : Nat → Nat, o = fun b => if b = pb then 65 else ow1 b := ⟨_, rfl⟩
    have hpt : ow2 pb = 65 := by rw [how2]; simp
    have hE2 : Xt u1 ow1 ow2 := fun b hb => by rw [how2]; show (if b = pb then 65 else ow1 b) = _; rw [if_neg (by omega)]
    have hcx : PCx u2 ow2 pb tb cap (toks s) := ⟨⟨⟨l, hTb, k5⟩, toks_more s, by omega⟩, by omega, h29.lt, hpt, hG1.far F29 (fun _ _ _ h => h) hE2⟩
    have hcur : PS.cur ⟨toks s, 0, 0, 0⟩ = t0 := cur_at (L := toks s) (i := 0) rfl ht0
    have hP0 : PrV u2 pb tb cap (toks s) ⟨toks s, 0, 0, 0⟩ := ⟨⟨0, by rw [hcur]; exact h29, by rw [hcur]; exact ht0, rfl⟩, Nat.zero_le _, Nat.zero_le _, Nat.zero_le _⟩
    have hpe : Pe ⟨toks s, 0, 0, 0⟩ := ⟨toksF_ok _ _ _, Nat.zero_le _⟩
    have hN2 : OwT u2 ow2 62 (.slice na n1 nc) 148 8 n1 xs1 := hN1.far F29 (fun _ _ _ h => h) hE2
    have hsb2 : ow2 sb = 60 := by rw [hE2 sb (by omega)]; exact hsb1
    have htb2 : ow2 tb = 61 := by rw [hE2 tb htl]; exact k4
    have hq := prs_eq s
    unfold chunkP at hq
    have hz2 := F29.size
    have hpl := h29.lt
    have hcap := hV1.cap rfl
    have hfin : ∀ (w' : World) (o : Nat → Nat) (N' : Value) (n' : Nat) (xs' : List Value), (∀ b, b < u1.heap.size → o b = ow1 b) → Blk w'.heap sb [np, .slice (some ⟨tb, 0, none⟩) (toks s).length cap, N'] 79 → Blk w'.heap tb l 182 → OwT w' o 62 N' 148 8 n' xs' → NdR n' xs' → Xt w ow o ∧ SyV w' o sb := fun w' o N' n' xs' h1 h2 h3 h4 h5 => ⟨fun b hb => by rw [h1 b (by omega)]; exact hE1 b hb, np, _, N', _, _, n', xs', h2, by rw [h1 sb (by omega)]; exact hsb1, OwT.mk' tkc_len h3 k1 hcap k2 k3 (by rw [h1 tb htl]; exact k4), h4, .inr ⟨s, hs48, rfl, rfl⟩, h5⟩
    have hown : ∀ m b, own1 (.slice na m nc) b → own1 (.slice na n1 nc) b := fun m b q => by
      cases na with
      | none => exact q
      | some a => exact q
    have hNo : ∀ {m : Nat} b, own1 (.slice na m nc) b → b < u1.heap.size ∧ ow1 b = 62 := fun b q => ⟨hN1.o.lt (hown _ b q), hN1.t b (hown _ b q)⟩
    have hNw : ∀ {m : Nat} b, own1 (.slice na m nc) b → ow b = 62 ∧ b < w.heap.size := fun b q => ⟨hN.t b (hown _ b q), hN.o.lt (hown _ b q)⟩
    refine pi_ro rfl (fun w hS => ro_assign rfl) ?_
    refine pi_nil (x_then (hK6 _ _ ?_))
    clear hK6 K6
    refine forget [(0, _), (1, _), (7, _)] ⟨rfl, rfl, rfl, trivial⟩ (fun e => ?_)
    refine c_seq (fun K7 hK7 => ?_)
    rcases bdP_some hq with ⟨⟨ee, pp⟩, hq6, hR⟩ | ⟨t1, s1, hq6, hR⟩
    · skip
      refine c_reg ?_ -- region 5 syn.go:31
      refine wl (ro_move rfl) ?_
      refine wl_call rfl en_76 ((PAll.all (5 * (toks s).length + 100) (by omega)).b6 (lv := 1) (ρ := 12) ⟨hcx, hP0, hpe, by decide, Nat.zero_le _, rfl⟩ hq6) ?_
      rintro v u3 ⟨F3, rfl, cs, hcs, hE⟩
      replace hX1 := F3.blkO hX1 (by omega)
      replace hTb := F3.blkO hTb (by omega)
      replace hF2 := hF2.trans' F3 (fun b hb q => by have q : b = pb := q; omega)
      have hee : ee ≠ 0 := (chunk_err (f := 5 * (toks s).length + 100) (tk := toks s) (toksF_err _ _ _)).1 ee pp (by rw [prs_eq, hR])
      have hN3 := hN2.far F3 (fun b hb _ q => by have q : b = pb := q; rw [q, hpt] at hb; omega) (Xt.refl _ _)
      refine wl (ro_move rfl) ?_
      refine wl (ro_extract rfl rfl) ?_
      refine wl (ro_extract rfl rfl) ?_
      refine wl (ro_assign rfl) ?_
      refine wl (ro_assign rfl) ?_
      refine wl_nil (x_then (hK7 _ _ ?_))
      clear hK7 K7
      refine c_seq (fun K8 hK8 => ?_)
      refine c_seq (fun K9 hK9 => ?_)
      have hN3 := hN2.far F3 (fun b hb _ q => by have q : b = pb := q; rw [q, hpt] at hb; omega) (Xt.refl _ _)
      refine c_reg ?_ -- region 6 syn.go:32
      refine wl (ro_move rfl) ?_
      refine wl (ro_move rfl) ?_
      refine wlg_no rfl ?_
      refine wlg_no rfl ?_
      refine wlg_no rfl ?_
      refine wlg_no rfl ?_
      refine wlg_no rfl ?_
      refine wlg_no rfl ?_
      refine wl (ro_pick rfl rfl rfl) ?_
      refine wl_nil (x_then (hK9 _ _ ?_))
      clear hK9 K9
      refine wc_condF rfl ?_
      refine c_skip (x_then (hK8 _ _ ?_))
      clear hK8 K8
      refine c_seq (fun K10 hK10 => ?_)
      refine c_seq (fun K11 hK11 => ?_)
      refine c_reg ?_ -- region 8 syn.go:35
      refine wl (ro_move rfl) ?_
      refine wl (ro_nilCheck rfl) ?_
      refine wl (ro_fieldAddr (k := 10) rfl fo_186_5) ?_
      refine wl (ro_loadB rfl sc_54 (hE) ((pre10 hcs).1)) ?_
      refine wl (ro_cmp rfl rfl rfl) ?_
      refine wl_nil (x_then (hK11 _ _ ?_))
      clear hK11 K11
      refine wc_cond rfl (fun hc50 => ?_) (fun hc50 => ?_)
      · try simp only [decide_eq_true_eq, decide_eq_false_iff_not, Bool.not_eq_true', Bool.not_eq_false', Bool.not_eq_eq_eq_not, Bool.not_true, Bool.not_false, beq_iff_eq, bne_iff_ne, ne_eq, beq_eq_false_iff_ne, bne_eq_false_iff_eq, gt_iff_lt, ge_iff_le, Int.not_lt, Int.not_le] at hc50
        refine c_seq (fun K12 hK12 => ?_)
        refine c_pi [(0, false), (1, false), (2, false), (3, false), (4, false), (5, false), (6, false), (7, false), (8, false), (9, false), (10, false)] (fun u => Blk u.heap pb (cs ++ [i64c ee, i64c pp]) 186) mixed (by kernel_rfl) rfl (by kernel_rfl) (po_then (po_then (po_bp))) (hE) ?_ -- region 9 syn.go:36
        refine pi_ro rfl (fun w hS => ro_move rfl) ?_
        refine pi_ro rfl (fun w hS => ro_nilCheck rfl) ?_
        refine pi_ro rfl (fun w hS => ro_fieldAddr (k := 10) rfl fo_186_5) ?_
        refine pi_ro rfl (fun w hS => ro_loadB rfl sc_54 (hS) ((pre10 hcs).1)) ?_
        refine pi_ro rfl (fun w hS => ro_move rfl) ?_
        refine pi_ro rfl (fun w hS => ro_nilCheck rfl) ?_
        refine pi_ro rfl (fun w hS => ro_fieldAddr (k := 11) rfl fo_186_6) ?_
        refine pi_ro rfl (fun w hS => ro_loadB rfl sc_3 (hS) ((pre10 hcs).2)) ?_
        refine pi_ro rfl (fun w hS => ro_assign rfl) ?_
        refine pi_ro rfl (fun w hS => ro_assign rfl) ?_
        refine pi_ro rfl (fun w hS => ro_assign rfl) ?_
        refine pi_nil (x_then (hK12 _ _ ?_))
        clear hK12 K12
        refine c_ret (x_thenR ?_)
        refine bp_ret Tryz.results34 rfl ?_
        have h7 := hfin { u3 with drawn := u3.drawn + 1 } (fun b => if b < u1.heap.size then ow1 b else 67) _ n1 xs1 (fun b hb => if_pos hb) hX1 hTb ⟨hN3.o, fun b q => by rw [if_pos (hNo b q).1]; exact (hNo b q).2⟩ hNR
        refine ⟨_, h7.1, h7.2, hF2.thenDrew, ?_⟩
        unfold PrsR prsV
        rw [if_neg (by omega), hR]
      · try simp only [decide_eq_true_eq, decide_eq_false_iff_not, Bool.not_eq_true', Bool.not_eq_false', Bool.not_eq_eq_eq_not, Bool.not_true, Bool.not_false, beq_iff_eq, bne_iff_ne, ne_eq, beq_eq_false_iff_ne, bne_eq_false_iff_eq, gt_iff_lt, ge_iff_le, Int.not_lt, Int.not_le] at hc50
        omega
    · skip
      refine c_reg ?_ -- region 5 syn.go:31
      refine wl (ro_move rfl) ?_
      refine wl_call rfl en_76 ((PAll.all (5 * (toks s).length + 100) (by omega)).b6 (lv := 1) (ρ := 12) ⟨hcx, hP0, hpe, by decide, Nat.zero_le _, rfl⟩ hq6) ?_
      rintro v u3 ⟨F3, U3, us3, rfl, hU3, hT3, hP3⟩
      obtain ⟨ua3, uc3, rfl⟩ := OwT.form hU3
      replace hX1 := F3.blkO hX1 (by omega)
      replace hTb := F3.blkO hTb (by omega)
      replace hF2 := hF2.trans' F3 (fun b hb q => by have q : b = pb := q; omega)
      obtain ⟨i3, hXp, hi3, hs3⟩ := hP3.ex
      unfold prc at hXp
      have hkk : s1.k = s1.cur.k := rfl
      refine wl (ro_move rfl) ?_
      refine wl (ro_extract rfl rfl) ?_
      refine wl (ro_extract rfl rfl) ?_
      refine wl (ro_assign rfl) ?_
      refine wl (ro_assign rfl) ?_
      refine wl_nil (x_then (hK7 _ _ ?_))
      clear hK7 K7
      refine c_seq (fun K13 hK13 => ?_)
      refine c_seq (fun K14 hK14 => ?_)
      by_cases hk0 : s1.k = 0
      · skip
        rw [if_pos hk0] at hR
        replace hR := okP_inj hR
        have hN3 := hN2.far F3 (fun b hb _ q => by have q : b = pb := q; rw [q, hpt] at hb; omega) (Xt.refl _ _)
        refine c_reg ?_ -- region 6 syn.go:32
        refine wl (ro_move rfl) ?_
        refine wl (ro_move rfl) ?_
        refine wlg_yes rfl (ro_move rfl) ?_
        refine wlg_yes rfl (ro_nilCheck rfl) ?_
        refine wlg_yes rfl (ro_fieldAddr (k := 2) rfl fo_186_2) ?_
        refine wlg_yes rfl (ro_fieldAddr (k := 0) rfl fo_182_0) ?_
        refine wlg_yes rfl (ro_loadB rfl sc_180 (by assumption) rfl) ?_
        refine wlg_yes rfl (ro_cmp rfl rfl rfl) ?_
        refine wl (ro_pick rfl rfl rfl) ?_
        refine wl_nil (x_then (hK14 _ _ ?_))
        clear hK14 K14
        refine wc_cond rfl (fun hc43 => ?_) (fun hc43 => ?_)
        · try simp only [decide_eq_true_eq, decide_eq_false_iff_not, Bool.not_eq_true', Bool.not_eq_false', Bool.not_eq_eq_eq_not, Bool.not_true, Bool.not_false, beq_iff_eq, bne_iff_ne, ne_eq, beq_eq_false_iff_ne, bne_eq_false_iff_eq, gt_iff_lt, ge_iff_le, Int.not_lt, Int.not_le] at hc43
          omega
        · try simp only [decide_eq_true_eq, decide_eq_false_iff_not, Bool.not_eq_true', Bool.not_eq_false', Bool.not_eq_eq_eq_not, Bool.not_true, Bool.not_false, beq_iff_eq, bne_iff_ne, ne_eq, beq_eq_false_iff_ne, bne_eq_false_iff_eq, gt_iff_lt, ge_iff_le, Int.not_lt, Int.not_le] at hc43
          refine c_skip (x_then (hK13 _ _ ?_))
          clear hK13 K13
          refine c_seq (fun K15 hK15 => ?_)
          refine c_seq (fun K16 hK16 => ?_)
          refine c_reg ?_ -- region 8 syn.go:35
          refine wl (ro_move rfl) ?_
          refine wl (ro_nilCheck rfl) ?_
          refine wl (ro_fieldAddr (k := 10) rfl fo_186_5) ?_
          refine wl (ro_loadB rfl sc_54 (by assumption) rfl) ?_
          refine wl (ro_cmp rfl rfl rfl) ?_
          refine wl_nil (x_then (hK16 _ _ ?_))
          clear hK16 K16
          refine wc_cond rfl (fun hc50 => ?_) (fun hc50 => ?_)
          · try simp only [decide_eq_true_eq, decide_eq_false_iff_not, Bool.not_eq_true', Bool.not_eq_false', Bool.not_eq_eq_eq_not, Bool.not_true, Bool.not_false, beq_iff_eq, bne_iff_ne, ne_eq, beq_eq_false_iff_ne, bne_eq_false_iff_eq, gt_iff_lt, ge_iff_le, Int.not_lt, Int.not_le] at hc50
            exact absurd rfl hc50
          · try simp only [decide_eq_true_eq, decide_eq_false_iff_not, Bool.not_eq_true', Bool.not_eq_false', Bool.not_eq_eq_eq_not, Bool.not_true, Bool.not_false, beq_iff_eq, bne_iff_ne, ne_eq, beq_eq_false_iff_ne, bne_eq_false_iff_eq, gt_iff_lt, ge_iff_le, Int.not_lt, Int.not_le] at hc50
            refine c_skip (x_then (hK15 _ _ ?_))
            clear hK15 K15
            refine forget [(0, _), (1, _), (8, _)] ⟨rfl, rfl, rfl, trivial⟩ (fun e => ?_)
            refine c_seq (fun K17 hK17 => ?_)
            have hN0 := hN3.take (Nat.zero_le n1)
            rw [Nat.zero_mul, List.take_zero] at hN0
            have hTrOK : TrOK t1 s1.fu := chunk_ok (f := 5 * (toks s).length + 100) (tk := toks s) (toksF_ok _ _ _) (by rw [prs_eq, hR])
            have hndb := chunk_nd (f := 5 * (toks s).length + 100) (tk := toks s) (by rw [prs_eq, hR])
            have hndc : ndT t1 + s1.len ≤ (toks s).length := block_nd hq6
            have hln1 : 1 ≤ s1.len := by
              have h1 := (List.getElem?_eq_some_iff.1 hi3).1
              unfold PS.len; rw [hs3, List.length_drop]; omega
            have hNmB : NmB t1 := fun k hk => by rw [hTrOK.nums, List.mem_range'_1] at hk; have := hTrOK.k12; omega
            have hz3 := F3.size
            have hnsb : ¬ own1 (.slice na 0 nc) sb := fun q => by have := (hNw sb q).1; omega
            refine c_reg ?_ -- region 10 syn.go:38
            refine wl (ro_move rfl) ?_
            refine wl (ro_move rfl) ?_
            refine wl (ro_nilCheck rfl) ?_
            refine wl (ro_fieldAddr (k := 2) rfl fo_79_2) ?_
            refine wl (ro_loadB rfl sc_77 (by assumption) rfl) ?_
            refine wl (ro_sliceH (h := 0) rfl rfl se_77 rfl (by omega)) ?_
            refine wl (ro_build rfl bld_148) ?_
            refine wl_bsapp (t := 77) (et := 148) (k := 8) (m := 0) (cs := ndc (Nd.zero, 0)) rfl rfl rfl rfl se_77 zx_148 by_148 rfl rfl rfl (ndc_one _) hN0.o (by decide) (by decide) ?_
            intro U4 u4 hon4 G4 hnb4
            obtain ⟨a4, c4, rfl⟩ := hon4.form
            replace hX1 := G4.blkF hX1 hnsb
            replace hTb := G4.blkF hTb (fun q => by have := (hNo tb q).2; omega)
            replace hF2 := hF2.trans' G4 (fun b hb q => .inr (.inr (hNw b q).1))
            obtain ⟨ow5, how5⟩ : ∃ o : Nat → Nat, o = nw (N63 u2 ow2) u3.heap.size 66 := ⟨_, rfl⟩
            have hE5 : Xt u3 (N63 u2 ow2) ow5 := by rw [how5]; exact Xt.nw (Nat.le_refl _)
            have hnN : ∀ b, N63 u2 ow2 b = 63 → b < u3.heap.size → ¬ own1 (.slice na 0 nc) b := fun b hb _ q => by
              have h1 := hNo b q
              rw [show N63 u2 ow2 b = ow2 b from nw_old (by omega), hE2 b h1.1] at hb
              omega
            have hSl5 : SlM u4 ow5 (.slice ua3 us3.length uc3) us3 := OwT.far hU3 G4 hnN hE5
            have hTl5 : TrM u4 ow5 3 t1 us3 := hT3.far G4 hnN hE5
            have hs5 : ow5 sb = 60 := by rw [hE5 sb (by omega), show N63 u2 ow2 sb = ow2 sb from nw_old (by omega)]; exact hsb2
            have hz4 := G4.size
            have hU5 : ∀ b, own1 (.slice a4 (0 + 1) c4) b → (b < u1.heap.size ∧ ow1 b = 62 ∧ ow5 b = 62) ∨ (u3.heap.size ≤ b ∧ ow5 b = 66) := fun b q => by
              rcases hnb4 b q with q | q
              · have h1 := hNo b q
                exact .inl ⟨h1.1, h1.2, by rw [hE5 b (by omega), show N63 u2 ow2 b = ow2 b from nw_old (by omega), hE2 b h1.1]; exact h1.2⟩
              · exact .inr ⟨q, by rw [how5]; exact nw_new q⟩
            have hUsb : ¬ own1 (.slice a4 (0 + 1) c4) sb := fun q => by
              rcases hU5 sb q with q | q <;> omega
            skip
            refine wl (ro_nilCheck rfl) ?_
            refine wl (ro_fieldAddr (k := 2) rfl fo_79_2) ?_
            refine wl_put rfl rfl rfl sz_77 hX1 (by simp) (rfl) (fun w1 hX1 F1 => ?_)
            replace hTb := F1.blkO hTb (by omega)
            replace hF2 := hF2.thenDrew.thenO F1 (by first | exact .inr (by omega) | exact .inl rfl | exact .inl (by assumption) | assumption)
            have hFp := (Fram.refl (one sb) u4).thenDrew.thenO F1 (.inl rfl)
            have hA5 : ArV (w1) ow5 sb np (.slice (some ⟨tb, 0, none⟩) (toks s).length cap) (.slice a4 (0 + 1) c4) [(Nd.zero, 0)] := ⟨hX1, hon4.fram hFp (fun b q e => hUsb (by have e : b = sb := e; rw [← e]; exact q)), hUsb, by omega, fun b q => by rcases hU5 b q with q | q <;> omega, fun b hb => by rw [how5, nw_new (by have := hFp.size; omega)]; decide, ⟨_, [], rfl⟩⟩
            have hn5 : ∀ b, ow5 b = 63 → b < u4.heap.size → ¬ one sb b := fun b hb _ e => by have e : b = sb := e; rw [e] at hb; omega
            have hSl6 := OwT.far hSl5 hFp hn5 (Xt.refl _ _)
            have hTl6 := hTl5.far hFp hn5 (Xt.refl _ _)
            refine wl_nil (x_then (hK17 _ _ ?_))
            clear hK17 K17
            refine forget [(0, _), (1, _), (8, _)] ⟨rfl, rfl, rfl, trivial⟩ (fun e => ?_)
            refine c_seq (fun K18 hK18 => ?_)
            refine c_reg ?_ -- region 11 syn.go:39
            refine wl (ro_move rfl) ?_
            refine wl (ro_move rfl) ?_
            refine wl_call rfl en_78 (chain3 (FAll.all (ndT t1)) hA5 hSl6 hTl6 hNmB (Nat.le_refl _) (by decide) (by show 1 + ndT t1 ≤ _; omega)) ?_
            rintro _ u6 ⟨rfl, U6, G6, hA6, hm6, hl6, hn6, F6⟩
            replace hTb := hTb.fram F6 (fun q => by
              rcases q with q | q
              · have : ow1 tb = 60 := by rw [q]; exact hsb1
                omega
              · rcases hU5 tb q with q | q <;> omega)
            have hz5 := hFp.size
            have hz6 := F6.size
            replace hF2 := hF2.trans' F6 (fun b hb q => by
              rcases q with q | q
              · rw [q]; exact .inl hsb
              · rcases hnb4 b q with q | q
                · exact .inr (.inr (hNw b q).1)
                · omega)
            replace hl6 : G6.length = 1 + ndT t1 := hl6
            obtain ⟨g6, cap6, l6, e6, hBg, q1, q2, q3, q4⟩ := hA6.own.pos (by omega)
            subst e6
            have hX6 := hA6.st
            have hg6 : (g6 < u1.heap.size ∧ ow1 g6 = 62) ∨ u3.heap.size ≤ g6 := by
              rcases hn6 g6 rfl with q | q
              · rcases hU5 g6 q with q | q
                · exact .inl ⟨q.1, q.2.1⟩
                · exact .inr q.1
              · exact .inr (by omega)
            have hne6 : g6 ≠ sb := fun q => hA6.ne (by rw [← q]; rfl)
            have hgl6 := hBg.lt
            have hne7 : g6 ≠ tb := fun q => by
              rcases hg6 with h | h
              · rw [q] at h; omega
              · omega
            have harn : G6.map Prod.fst = arena t1 := hm6
            have hNd6 : NdR G6.length (rws ndc G6) := .inr ⟨G6, t1, s1.fu, hTrOK, rfl, rfl, harn, by omega, by omega, hA6.z0⟩
            refine wl (ro_assign rfl) ?_
            refine wl_nil (x_then (hK18 _ _ ?_))
            clear hK18 K18
            refine c_seq (fun K19 hK19 => ?_)
            refine c_seq (fun K20 hK20 => ?_)
            refine c_reg ?_ -- region 12 syn.go:40
            refine wl (ro_move rfl) ?_
            refine wl (ro_nilCheck rfl) ?_
            refine wl (ro_fieldAddr (k := 2) rfl fo_79_2) ?_
            refine wl (ro_loadB rfl sc_77 (by assumption) rfl) ?_
            refine wl (ro_lenL rfl se_77) ?_
            refine wl (ro_arith rfl rfl rfl (Go.IntWalk.i64_in _ (by omega))) ?_
            refine wl (ro_cmp rfl rfl rfl) ?_
            refine wl_nil (x_then (hK20 _ _ ?_))
            clear hK20 K20
            refine wc_cond rfl (fun hc79 => ?_) (fun hc79 => ?_)
            · try simp only [decide_eq_true_eq, decide_eq_false_iff_not, Bool.not_eq_true', Bool.not_eq_false', Bool.not_eq_eq_eq_not, Bool.not_true, Bool.not_false, beq_iff_eq, bne_iff_ne, ne_eq, beq_eq_false_iff_ne, bne_eq_false_iff_eq, gt_iff_lt, ge_iff_le, Int.not_lt, Int.not_le] at hc79
              refine c_seq (fun K21 hK21 => ?_)
              refine c_reg ?_ -- region 13 syn.go:41
              refine wl (ro_move rfl) ?_
              refine wl (ro_lenS rfl st_9) ?_
              refine wl (ro_assign rfl) ?_
              refine wl (ro_assign rfl) ?_
              refine wl (ro_assign rfl) ?_
              refine wl_nil (x_then (hK21 _ _ ?_))
              clear hK21 K21
              refine c_ret (x_thenR ?_)
              refine bp_ret Tryz.results34 rfl ?_
              have h7 := hfin _ (fun b => if b < u1.heap.size then ow1 b else if b = g6 then 62 else 67) _ _ _ (fun b hb => if_pos hb) hX6 hTb (OwT.mk' ndc_len hBg q1 q2 q3 q4 (by
                rcases hg6 with h | h
                · rw [if_pos h.1]; exact h.2
                · rw [if_neg (by omega), if_pos rfl])) hNd6
              refine ⟨_, h7.1, h7.2, hF2, ?_⟩
              unfold PrsR prsV
              rw [if_neg (by omega), hR]
              simp only
              rw [if_pos (by omega)]
              rfl
            · try simp only [decide_eq_true_eq, decide_eq_false_iff_not, Bool.not_eq_true', Bool.not_eq_false', Bool.not_eq_eq_eq_not, Bool.not_true, Bool.not_false, beq_iff_eq, bne_iff_ne, ne_eq, beq_eq_false_iff_ne, bne_eq_false_iff_eq, gt_iff_lt, ge_iff_le, Int.not_lt, Int.not_le] at hc79
              refine c_skip (x_then (hK19 _ _ ?_))
              clear hK19 K19
              refine forget [(0, _), (10, _)] ⟨rfl, rfl, trivial⟩ (fun e => ?_)
              refine c_seq (fun K22 hK22 => ?_)
              refine c_reg ?_ -- region 14 syn.go:43
              refine wl (ro_move rfl) ?_
              refine wl (ro_nilCheck rfl) ?_
              refine wl (ro_fieldAddr (k := 2) rfl fo_79_2) ?_
              refine wl (ro_loadB rfl sc_77 (by assumption) rfl) ?_
              refine wl (ro_lenL rfl se_77) ?_
              refine wl_make (len := G6.length) (cap := G6.length) rfl rfl se_77 ze_148 (by simp) (by omega) (by omega) rfl bb_148 (fun ob w2 hbob hO F2 => ?_)
              have hnetbob : tb < ob := Nat.lt_of_lt_of_le hTb.lt hbob
              have hbsob := Nat.le_trans hF2.size hbob
              have hnesbob : sb < ob := Nat.lt_of_lt_of_le hX6.lt hbob
              have hneg6ob : g6 < ob := Nat.lt_of_lt_of_le hBg.lt hbob
              replace hTb := F2.blkN hTb
              replace hF2 := hF2.thenDrew.thenN F2
              replace hX6 := F2.blkN hX6
              replace hBg := F2.blkN hBg
              refine wl (ro_assign rfl) ?_
              refine wl_nil (x_then (hK22 _ _ ?_))
              clear hK22 K22
              refine forget [(0, _), (10, _), (11, _)] ⟨rfl, rfl, rfl, trivial⟩ (fun e => ?_)
              refine c_seq (fun K23 hK23 => ?_)
              refine c_reg ?_ -- region 15 syn.go:44
              refine wl (ro_move rfl) ?_
              refine wl (ro_move rfl) ?_
              refine wl (ro_nilCheck rfl) ?_
              refine wl (ro_fieldAddr (k := 2) rfl fo_79_2) ?_
              refine wl (ro_loadB rfl sc_77 (by assumption) rfl) ?_
              refine wl_copyL (m := G6.length) (k := 8) (cs := rws ndc G6) rfl rfl se_77 hO hBg (Nat.min_self _) (by rw [List.drop_zero]; exact q4) (rws_len ndc_len _) (rws_oneC ndc_one _) (by rw [cel_len]; omega) (fun u9 hO9 F9 ↦ ?_)
              have hol := hO9.lt
              replace hX6 := F9.blkO hX6 (by omega)
              replace hBg := F9.blkO hBg (by omega)
              replace hTb := F9.blkO hTb (by omega)
              replace hF2 := hF2.trans' F9 (fun b hb q => by have q : b = ob := q; omega)
              rw [List.take_zero, List.nil_append, List.drop_eq_nil_of_le (by rw [cel_len]; omega), List.append_nil] at hO9
              have hrl : (rws ndc G6).length = G6.length * 8 := rws_len ndc_len _
              refine wl_nil (x_then (hK23 _ _ ?_))
              clear hK23 K23
              refine forget [(10, _), (11, _)] ⟨rfl, rfl, trivial⟩ (fun e => ?_)
              refine c_seq (fun K24 hK24 => ?_)
              refine c_reg ?_ -- region 16 syn.go:45
              refine wl (ro_move rfl) ?_
              refine wl (ro_move rfl) ?_
              refine wl (ro_build rfl bld_107_0_1) ?_
              refine wl_box rfl rfl (fun b97 w3 hbb97 h97 F3 => ?_)
              have hnetbb97 : tb < b97 := Nat.lt_of_lt_of_le hTb.lt hbb97
              have hbsb97 := Nat.le_trans hF2.size hbb97
              have hnesbb97 : sb < b97 := Nat.lt_of_lt_of_le hX6.lt hbb97
              have hneg6b97 : g6 < b97 := Nat.lt_of_lt_of_le hBg.lt hbb97
              have hneobb97 : ob < b97 := Nat.lt_of_lt_of_le hO9.lt hbb97
              replace hTb := F3.blkN hTb
              replace hF2 := hF2.thenDrew.thenN F3
              replace hX6 := F3.blkN hX6
              replace hBg := F3.blkN hBg
              replace hO9 := F3.blkN hO9
              refine wl (ro_assign rfl) ?_
              refine wl (ro_assign rfl) ?_
              refine wl (ro_assign rfl) ?_
              refine wl_nil (x_then (hK24 _ _ ?_))
              clear hK24 K24
              refine c_ret ?_
              refine bp_ret Tryz.results34 rfl ?_
              have h7 := hfin _ (fun b => if b < u1.heap.size then ow1 b else if b = g6 then 62 else 67) _ _ _ (fun b hb => if_pos hb) hX6 hTb (OwT.mk' ndc_len hBg q1 q2 q3 q4 (by
                rcases hg6 with h | h
                · rw [if_pos h.1]; exact h.2
                · rw [if_neg (by omega), if_pos rfl])) hNd6
              refine ⟨_, h7.1, h7.2, hF2, ?_⟩
              unfold PrsR prsV
              rw [if_neg (by omega), hR]
              simp only
              rw [if_neg (by omega)]
              have hOw := OwT.mk' (ow := fun b => if b < u1.heap.size then ow1 b else if b = g6 then 62 else 67) (tag := 67) (L := G6) (cap := G6.length) ndc_len hO9 (Nat.le_refl _) (by omega) hrl (by rw [List.take_of_length_le (by omega)]) (by show (if ob < u1.heap.size then ow1 ob else if ob = g6 then 62 else 67) = 67; rw [if_neg (by omega), if_neg (by omega)])
              refine ⟨b97, rfl, ⟨_, G6, h97, ?_, harn, by omega⟩, by show (if b97 < u1.heap.size then ow1 b97 else if b97 = g6 then 62 else 67) = 67; rw [if_neg (by omega), if_neg (by omega)]⟩
              rw [show ndT t1 + 1 = G6.length by omega]
              exact hOw
      · skip
        rw [if_neg hk0] at hR
        replace hR := failP_inj hR
        have hN3 := hN2.far F3 (fun b hb _ q => by have q : b = pb := q; rw [q, hpt] at hb; omega) (Xt.refl _ _)
        refine c_reg ?_ -- region 6 syn.go:32
        refine wl (ro_move rfl) ?_
        refine wl (ro_move rfl) ?_
        refine wlg_yes rfl (ro_move rfl) ?_
        refine wlg_yes rfl (ro_nilCheck rfl) ?_
        refine wlg_yes rfl (ro_fieldAddr (k := 2) rfl fo_186_2) ?_
        refine wlg_yes rfl (ro_fieldAddr (k := 0) rfl fo_182_0) ?_
        refine wlg_yes rfl (ro_loadB rfl sc_180 (by assumption) rfl) ?_
        refine wlg_yes rfl (ro_cmp rfl rfl rfl) ?_
        refine wl (ro_pick rfl rfl rfl) ?_
        refine wl_nil (x_then (hK14 _ _ ?_))
        clear hK14 K14
        refine wc_cond rfl (fun hc43 => ?_) (fun hc43 => ?_)
        · try simp only [decide_eq_true_eq, decide_eq_false_iff_not, Bool.not_eq_true', Bool.not_eq_false', Bool.not_eq_eq_eq_not, Bool.not_true, Bool.not_false, beq_iff_eq, bne_iff_ne, ne_eq, beq_eq_false_iff_ne, bne_eq_false_iff_eq, gt_iff_lt, ge_iff_le, Int.not_lt, Int.not_le] at hc43
          refine c_reg ?_ -- region 7 syn.go:33
          refine wl (ro_move rfl) ?_
          refine wl_call rfl en_77 (fail77 (e := 15) hP3) ?_
          rintro _ u4 ⟨rfl, ⟨cs, hcs, hE⟩, F4⟩
          obtain ⟨ee, hee0⟩ : ∃ ee, ee = if s1.k = 1 then s1.cur.e else 15 := ⟨_, rfl⟩
          rw [← hee0] at hE hR
          replace hX1 := F4.blkO hX1 (by omega)
          replace hTb := F4.blkO hTb (by omega)
          replace hF2 := hF2.trans' F4 (fun b hb q => by have q : b = pb := q; omega)
          have hN4 := hN3.far F4 (fun b hb _ q => by have q : b = pb := q; rw [q, hpt] at hb; omega) (Xt.refl _ _)
          have hee : ee ≠ 0 := (chunk_err (f := 5 * (toks s).length + 100) (tk := toks s) (toksF_err _ _ _)).1 ee _ (by rw [prs_eq, hR])
          refine wl_nil (x_then (hK13 _ _ ?_))
          clear hK13 K13
          refine c_seq (fun K25 hK25 => ?_)
          refine c_seq (fun K26 hK26 => ?_)
          refine c_reg ?_ -- region 8 syn.go:35
          refine wl (ro_move rfl) ?_
          refine wl (ro_nilCheck rfl) ?_
          refine wl (ro_fieldAddr (k := 10) rfl fo_186_5) ?_
          refine wl (ro_loadB rfl sc_54 (hE) ((pre10 hcs).1)) ?_
          refine wl (ro_cmp rfl rfl rfl) ?_
          refine wl_nil (x_then (hK26 _ _ ?_))
          clear hK26 K26
          refine wc_cond rfl (fun hc50 => ?_) (fun hc50 => ?_)
          · try simp only [decide_eq_true_eq, decide_eq_false_iff_not, Bool.not_eq_true', Bool.not_eq_false', Bool.not_eq_eq_eq_not, Bool.not_true, Bool.not_false, beq_iff_eq, bne_iff_ne, ne_eq, beq_eq_false_iff_ne, bne_eq_false_iff_eq, gt_iff_lt, ge_iff_le, Int.not_lt, Int.not_le] at hc50
            refine c_seq (fun K27 hK27 => ?_)
            refine c_pi [(0, false), (1, false), (2, false), (3, false), (4, false), (5, false), (6, false), (7, false), (8, false), (9, false), (10, false)] (fun u => Blk u.heap pb (cs ++ [i64c ee, i64c s1.cur.pl]) 186) mixed (by kernel_rfl) rfl (by kernel_rfl) (po_then (po_then (po_bp))) (hE) ?_ -- region 9 syn.go:36
            refine pi_ro rfl (fun w hS => ro_move rfl) ?_
            refine pi_ro rfl (fun w hS => ro_nilCheck rfl) ?_
            refine pi_ro rfl (fun w hS => ro_fieldAddr (k := 10) rfl fo_186_5) ?_
            refine pi_ro rfl (fun w hS => ro_loadB rfl sc_54 (hS) ((pre10 hcs).1)) ?_
            refine pi_ro rfl (fun w hS => ro_move rfl) ?_
            refine pi_ro rfl (fun w hS => ro_nilCheck rfl) ?_
            refine pi_ro rfl (fun w hS => ro_fieldAddr (k := 11) rfl fo_186_6) ?_
            refine pi_ro rfl (fun w hS => ro_loadB rfl sc_3 (hS) ((pre10 hcs).2)) ?_
            refine pi_ro rfl (fun w hS => ro_assign rfl) ?_
            refine pi_ro rfl (fun w hS => ro_assign rfl) ?_
            refine pi_ro rfl (fun w hS => ro_assign rfl) ?_
            refine pi_nil (x_then (hK27 _ _ ?_))
            clear hK27 K27
            refine c_ret (x_thenR ?_)
            refine bp_ret Tryz.results34 rfl ?_
            have h7 := hfin { u4 with drawn := u4.drawn + 1 } (fun b => if b < u1.heap.size then ow1 b else 67) _ n1 xs1 (fun b hb => if_pos hb) hX1 hTb ⟨hN4.o, fun b q => by rw [if_pos (hNo b q).1]; exact (hNo b q).2⟩ hNR
            refine ⟨_, h7.1, h7.2, hF2.thenDrew, ?_⟩
            unfold PrsR prsV
            rw [if_neg (by omega), hR]
          · try simp only [decide_eq_true_eq, decide_eq_false_iff_not, Bool.not_eq_true', Bool.not_eq_false', Bool.not_eq_eq_eq_not, Bool.not_true, Bool.not_false, beq_iff_eq, bne_iff_ne, ne_eq, beq_eq_false_iff_ne, bne_eq_false_iff_eq, gt_iff_lt, ge_iff_le, Int.not_lt, Int.not_le] at hc50
            omega
        · try simp only [decide_eq_true_eq, decide_eq_false_iff_not, Bool.not_eq_true', Bool.not_eq_false', Bool.not_eq_eq_eq_not, Bool.not_true, Bool.not_false, beq_iff_eq, bne_iff_ne, ne_eq, beq_eq_false_iff_ne, bne_eq_false_iff_eq, gt_iff_lt, ge_iff_le, Int.not_lt, Int.not_le] at hc43
          omega
end Go.Proofs.Qxb6500568aGreatDoor
