import Derived.Test.Qxb6500570aGreatNe
import Derived.Test.Qxb6500570aGreatMe
import Derived.Test.Qxb6500570aGreatQe
import Derived.Test.Qxb6500570aGreatFm
/- The model's book: snapshots. -/
namespace Go.Proofs.Qxb6500570aGreat
set_option linter.unusedVariables false
set_option linter.unusedSimpArgs false

structure MK where
  k : Nat
  h : Nat
  N : EM
structure MkB (lo hi : Nat) (Y : MK) : Prop where
  nb : NaB lo Y.h Y.N
  hk : Y.h ≤ Y.k
  kh : Y.k < hi
theorem MkB.loh {lo hi : Nat} {Y : MK} (h : MkB lo hi Y) : lo < Y.h := by
  have h0 := h.nb.mc
  have h1 := h.nb.lf
  have h2 := h.nb.fm
  have h3 := h.nb.ce
  have h4 := h.nb.eh
  omega
def SnV (w : World) (O : Nat → Prop) (hi : Nat) (xs : List Value) (L : List (List Tx)) : Prop := xs.length = L.length ∧ ∀ (i : Nat) (S : List Tx), L[i]? = some S → TxOK S ∧ ∃ b, xs[i]? = some (sl b 24) ∧ hi ≤ b ∧ O b ∧ Blk w.heap b (rws stc S) 9
theorem SnV.far {w w' : World} {O : Nat → Prop} {hi : Nat} {xs : List Value} {L : List (List Tx)} {G : Nat → Prop} (h : SnV w O hi xs L) (F : Fram G w w') (hn : ∀ b S, hi ≤ b → O b → Blk w.heap b (rws stc S) 9 → ¬ G b) : SnV w' O hi xs L :=
  ⟨h.1, fun i S hS => by
    obtain ⟨h1, b, h2, h3, h5, h4⟩ := h.2 i S hS
    exact ⟨h1, b, h2, h3, h5, F.blkF h4 (hn b S h3 h5 h4)⟩⟩
theorem SnV.own {w : World} {O O' : Nat → Prop} {hi : Nat} {xs : List Value} {L : List (List Tx)} (h : SnV w O hi xs L) (hO : ∀ b, b < w.heap.size → O b → O' b) : SnV w O' hi xs L :=
  ⟨h.1, fun i S hS => by
    obtain ⟨h1, b, h2, h3, h5, h4⟩ := h.2 i S hS
    exact ⟨h1, b, h2, h3, hO b h4.lt h5, h4⟩⟩
theorem SnV.nil (w : World) (O : Nat → Prop) (hi : Nat) : SnV w O hi [] [] := ⟨rfl, fun i S h => by simp at h⟩
theorem SnV.snoc {w : World} {O : Nat → Prop} {hi b : Nat} {xs : List Value} {L : List (List Tx)} {S : List Tx} (h : SnV w O hi xs L) (hS : TxOK S) (hb : hi ≤ b) (hO : O b) (hB : Blk w.heap b (rws stc S) 9) : SnV w O hi (xs ++ [sl b 24]) (L ++ [S]) := by
  refine ⟨by simp [h.1], fun i S' hi' => ?_⟩
  rcases Nat.lt_or_ge i L.length with q | q
  · rw [List.getElem?_append_left q] at hi'
    obtain ⟨h1, b', h2, h3, h4⟩ := h.2 i S' hi'
    exact ⟨h1, b', by rw [List.getElem?_append_left (by rw [h.1]; exact q)]; exact h2, h3, h4⟩
  · have hi2 := (List.getElem?_eq_some_iff.1 hi').1
    have : i = L.length := by simp at hi2; omega
    subst this
    rw [List.getElem?_append_right (by omega)] at hi'
    simp at hi'
    subst hi'
    exact ⟨hS, b, by rw [List.getElem?_append_right (by rw [h.1]; omega)]; simp [h.1], hb, hO, hB⟩
theorem SnV.drop1 {w : World} {O : Nat → Prop} {hi : Nat} {xs : List Value} {L : List (List Tx)} (h : SnV w O hi xs L) : SnV w O hi (xs.drop 1) (L.drop 1) := by
  refine ⟨by simp [h.1], fun i S hS => ?_⟩
  rw [List.getElem?_drop] at hS
  obtain ⟨h1, b, h2, h3, h4⟩ := h.2 _ S hS
  exact ⟨h1, b, by rw [List.getElem?_drop]; exact h2, h3, h4⟩
theorem SnV.last {w : World} {O : Nat → Prop} {hi : Nat} {xs : List Value} {L : List (List Tx)} {S : List Tx} (h : SnV w O hi xs (L ++ [S])) : SnV w O hi (xs.take L.length) L ∧ TxOK S ∧ ∃ b, xs[L.length]? = some (sl b 24) ∧ hi ≤ b ∧ O b ∧ Blk w.heap b (rws stc S) 9 := by
  refine ⟨⟨by have := h.1; simp at this ⊢; omega, fun i S' hS' => ?_⟩, h.2 L.length S (by simp)⟩
  have hi' := (List.getElem?_eq_some_iff.1 hS').1
  obtain ⟨h1, b, h2, h3, h4⟩ := h.2 i S' (by rw [List.getElem?_append_left hi']; exact hS')
  exact ⟨h1, b, by rw [List.getElem?_take_of_lt hi']; exact h2, h3, h4⟩
theorem SnV.all {w : World} {O : Nat → Prop} {hi : Nat} {xs : List Value} {L : List (List Tx)} (h : SnV w O hi xs L) : ∀ S ∈ L, TxOK S := fun S hS => by
  obtain ⟨i, hi', rfl⟩ := List.getElem_of_mem hS
  exact (h.2 i _ (List.getElem?_eq_getElem hi')).1
def ups (O : Nat → Prop) (w : World) : Nat → Prop := fun b => O b ∨ w.heap.size ≤ b
structure MkW (w : World) (Y : MK) (O : Nat → Prop) (lo hi : Nat) (T : List Tx) (past next : List (List Tx)) (V1 V2 : Value) (sb : Nat) (SL : List Vl) (xs ys : List Value) : Prop where
  hK : Blk w.heap Y.k [ptr Y.N.e, V1, V2] 53
  hv : NaV w Y.N Y.h sb T SL
  o1 : OwO w.heap V1 56 xs
  o2 : OwO w.heap V2 56 ys
  b1 : ∀ b, V1.ownBlock = some b → hi ≤ b
  b2 : ∀ b, V2.ownBlock = some b → hi ≤ b
  df : ∀ b, V1.ownBlock = some b → V2.ownBlock = some b → False
  s1 : SnV w O hi xs past
  s2 : SnV w O hi ys next
  hz : hi ≤ w.heap.size
def BkV (w : World) (Y : MK) (O : Nat → Prop) (lo hi : Nat) (T : List Tx) (past next : List (List Tx)) (V1 V2 : Value) (sb : Nat) : Prop := ∃ SL xs ys, MkW w Y O lo hi T past next V1 V2 sb SL xs ys
theorem MkW.far {w w' : World} {Y : MK} {O : Nat → Prop} {lo hi : Nat} {T : List Tx} {past next : List (List Tx)} {V1 V2 : Value} {sb : Nat} {SL : List Vl} {xs ys : List Value} {G : Nat → Prop} (hb : MkB lo hi Y) (h : MkW w Y O lo hi T past next V1 V2 sb SL xs ys) (F : Fram G w w') (hn : ∀ b, lo ≤ b → b < hi → ¬ G b) (h1 : ∀ b, V1.ownBlock = some b → ¬ G b) (h2 : ∀ b, V2.ownBlock = some b → ¬ G b) (hs : ¬ G sb) (hsn : ∀ b S, hi ≤ b → O b → Blk w.heap b (rws stc S) 9 → ¬ G b) : MkW w' Y O lo hi T past next V1 V2 sb SL xs ys := by
  have h0 := hb.loh
  have hk := hb.hk
  have hk2 := hb.kh
  exact ⟨F.blkF h.hK (hn _ (by omega) (by omega)), h.hv.far hb.nb F (fun b q1 q2 => hn b q1 (by omega)) hs, h.o1.fram F h1, h.o2.fram F h2, h.b1, h.b2, h.df, h.s1.far F hsn, h.s2.far F hsn, by have := F.size; have := h.hz; omega⟩
theorem BkV.far {w w' : World} {Y : MK} {O : Nat → Prop} {lo hi : Nat} {T : List Tx} {past next : List (List Tx)} {V1 V2 : Value} {sb : Nat} {G : Nat → Prop} (hb : MkB lo hi Y) (h : BkV w Y O lo hi T past next V1 V2 sb) (F : Fram G w w') (hn : ∀ b, lo ≤ b → b < hi → ¬ G b) (h1 : ∀ b, V1.ownBlock = some b → ¬ G b) (h2 : ∀ b, V2.ownBlock = some b → ¬ G b) (hs : ¬ G sb) (hsn : ∀ b S, hi ≤ b → O b → Blk w.heap b (rws stc S) 9 → ¬ G b) : BkV w' Y O lo hi T past next V1 V2 sb := by
  obtain ⟨SL, xs, ys, h⟩ := h
  exact ⟨SL, xs, ys, h.far hb F hn h1 h2 hs hsn⟩
/-- What the model's book may write. -/
def MkS (lo hi : Nat) (V1 V2 : Value) : Nat → Prop := fun b => (lo ≤ b ∧ b < hi) ∨ V1.ownBlock = some b ∨ V2.ownBlock = some b
theorem Raw62 {w : World} {Y : MK} {V1 V2 : Value} {hi sb : Nat} {T : List Tx} {SL : List Vl} {c : Int} (hK : Blk w.heap Y.k [ptr Y.N.e, V1, V2] 53) (hv : NaV w Y.N hi sb T SL) : Ret Tryz.prog 62 [ptr Y.k, icv c] w (fun v w' => v = S (getS T c) ∧ w' = w) := by
  refine ret_of Tryz.func62 rfl Tryz.ntmps62 rfl ?_
  refine c_seq (fun K1 hK1 => ?_)
  refine c_reg ?_ -- region 0 bookm.go:142
  refine wl (ro_assign rfl) ?_
  refine wl_nil (x_then (hK1 _ _ ?_))
  clear hK1 K1
  refine forget [(0, _), (1, _)] ⟨rfl, rfl, trivial⟩ (fun e => ?_)
  refine c_seq (fun K2 hK2 => ?_)
  refine c_reg ?_ -- region 1 bookm.go:142
  refine wl (ro_move rfl) ?_
  refine wl (ro_nilCheck rfl) ?_
  refine wl (ro_fieldAddr (k := 0) rfl fo_53_0) ?_
  refine wl (ro_loadB rfl sc_49 (by assumption) rfl) ?_
  refine wl (ro_move rfl) ?_
  refine wl_call rfl en_67 (Raw67 hv) ?_
  rintro _ _ ⟨rfl, rfl⟩
  refine wl (ro_assign rfl) ?_
  refine wl_nil (x_then (hK2 _ _ ?_))
  clear hK2 K2
  refine c_ret ?_
  refine bp_ret Tryz.results62 rfl ?_
  exact ⟨rfl, rfl⟩
theorem Value64 {w : World} {Y : MK} {V1 V2 : Value} {lo hi sb : Nat} {T : List Tx} {SL : List Vl} {c : Int} (hb : NaB lo hi Y.N) (hK : Blk w.heap Y.k [ptr Y.N.e, V1, V2] 53) (hv : NaV w Y.N hi sb T SL) : Ret Tryz.prog 64 [ptr Y.k, icv c] w (fun v w' => v = vlA (getV SL c) ∧ Fram none' w w') := by
  have hF : Fram none' w w := Fram.refl _ _
  refine ret_of Tryz.func64 rfl Tryz.ntmps64 rfl ?_
  refine c_seq (fun K1 hK1 => ?_)
  refine c_reg ?_ -- region 0 bookm.go:143
  refine wl_new (ze_104) (fun b4 w1 hbb4 h4 F1 => ?_)
  have hbsb4 := Nat.le_trans hF.size hbb4
  have hneY.kb4 : Y.k < b4 := Nat.lt_of_lt_of_le hK.lt hbb4
  replace hF := hF.thenDrew.thenN F1
  replace hK := F1.blkN hK
  replace hv := NaV.farN hb hv F1
  refine wl_nil (x_then (hK1 _ _ ?_))
  clear hK1 K1
  refine forget [(0, _), (1, _), (4, _)] ⟨rfl, rfl, rfl, trivial⟩ (fun e => ?_)
  refine c_seq (fun K2 hK2 => ?_)
  refine c_reg ?_ -- region 1 bookm.go:143
  refine wl (ro_move rfl) ?_
  refine wl (ro_nilCheck rfl) ?_
  refine wl (ro_fieldAddr (k := 0) rfl fo_53_0) ?_
  refine wl (ro_loadB rfl sc_49 (by assumption) rfl) ?_
  refine wl (ro_move rfl) ?_
  refine wl_call rfl en_95 (Value95 hb hv) ?_
  rintro _ u1 ⟨rfl, G1⟩
  replace hF := hF.transG G1 (by intro k hk h; simp only [none'] at h ⊢ <;> omega)
  replace hK := G1.blkF hK (by intro h; simp only [none'] at h <;> omega)
  replace h4 := G1.blkF h4 (by intro h; simp only [none'] at h <;> omega)
  refine wl_puta rfl rfl ((by (try exact vlc_cells _); all_goals simp [Value.oneCell', i64c, icv, u64c, u8c, ptr, S])) sz_104 (rfl) h4 ((by simp)) (rfl) (fun w2 h4 F2 => ?_)
  replace hF := hF.thenDrew.thenO F2 (by first | exact .inr (by omega) | exact .inl rfl | exact .inl (by assumption))
  replace hK := F2.blkO hK (by omega)
  refine wl_nil (x_then (hK2 _ _ ?_))
  clear hK2 K2
  refine c_ret ?_
  refine bq_ret (res1 Tryz.results64 (rv_c rfl ag_104 (h4) (rfl))) ?_
  exact ⟨rfl, hF⟩
theorem Undos39 {w : World} {Y : MK} {V2 : Value} {a : Option Addr} {m cap : Nat} (hK : Blk w.heap Y.k [ptr Y.N.e, .slice a m cap, V2] 53) : Ret Tryz.prog 39 [ptr Y.k] w (fun v w' => v = i64c m ∧ w' = w) := by
  refine ret_of Tryz.func39 rfl Tryz.ntmps39 rfl ?_
  refine c_seq (fun K1 hK1 => ?_)
  refine c_reg ?_ -- region 0 bookm.go:144
  refine wl (ro_assign rfl) ?_
  refine wl_nil (x_then (hK1 _ _ ?_))
  clear hK1 K1
  refine forget [(0, _)] ⟨rfl, trivial⟩ (fun e => ?_)
  refine c_seq (fun K2 hK2 => ?_)
  refine c_reg ?_ -- region 1 bookm.go:144
  refine wl (ro_move rfl) ?_
  refine wl (ro_nilCheck rfl) ?_
  refine wl (ro_fieldAddr (k := 1) rfl fo_53_1) ?_
  refine wl (ro_loadB rfl sc_51 (by assumption) rfl) ?_
  refine wl (ro_lenL rfl se_51) ?_
  refine wl (ro_assign rfl) ?_
  refine wl_nil (x_then (hK2 _ _ ?_))
  clear hK2 K2
  refine c_ret ?_
  refine bp_ret Tryz.results39 rfl ?_
  exact ⟨rfl, rfl⟩
theorem Redos41 {w : World} {Y : MK} {V1 : Value} {a : Option Addr} {m cap : Nat} (hK : Blk w.heap Y.k [ptr Y.N.e, V1, .slice a m cap] 53) : Ret Tryz.prog 41 [ptr Y.k] w (fun v w' => v = i64c m ∧ w' = w) := by
  refine ret_of Tryz.func41 rfl Tryz.ntmps41 rfl ?_
  refine c_seq (fun K1 hK1 => ?_)
  refine c_reg ?_ -- region 0 bookm.go:145
  refine wl (ro_assign rfl) ?_
  refine wl_nil (x_then (hK1 _ _ ?_))
  clear hK1 K1
  refine forget [(0, _)] ⟨rfl, trivial⟩ (fun e => ?_)
  refine c_seq (fun K2 hK2 => ?_)
  refine c_reg ?_ -- region 1 bookm.go:145
  refine wl (ro_move rfl) ?_
  refine wl (ro_nilCheck rfl) ?_
  refine wl (ro_fieldAddr (k := 2) rfl fo_53_2) ?_
  refine wl (ro_loadB rfl sc_51 (by assumption) rfl) ?_
  refine wl (ro_lenL rfl se_51) ?_
  refine wl (ro_assign rfl) ?_
  refine wl_nil (x_then (hK2 _ _ ?_))
  clear hK2 K2
  refine c_ret ?_
  refine bp_ret Tryz.results41 rfl ?_
  exact ⟨rfl, rfl⟩
set_option maxHeartbeats 4000000 in
theorem snap44 {w : World} {Y : MK} {V1 V2 : Value} {lo hi sb : Nat} {T : List Tx} {SL : List Vl} (hb : NaB lo hi Y.N) (hhi : hi ≤ w.heap.size) (hK : Blk w.heap Y.k [ptr Y.N.e, V1, V2] 53) (hv : NaV w Y.N hi sb T SL) :
    Ret Tryz.prog 44 [ptr Y.k] w (fun v w' => (∃ b, v = sl b 24 ∧ w.heap.size ≤ b ∧ Blk w'.heap b (rws stc T) 9) ∧ Fram none' w w') := by
  have hF : Fram none' w w := Fram.refl _ _
  have htl := hv.ok.tl
  have hzl : zL.length = 24 := List.length_replicate
  have hsbl := hv.mv.hV.lt
  refine ret_of Tryz.func44 rfl Tryz.ntmps44 rfl ?_
  refine c_seq (fun K1 hK1 => ?_)
  refine c_reg ?_ -- region 0 bookm.go:20
  refine wl (ro_assign rfl) ?_
  refine wl_nil (x_then (hK1 _ _ ?_))
  clear hK1 K1
  refine forget [(0, _)] ⟨rfl, trivial⟩ (fun e => ?_)
  refine c_seq (fun K2 hK2 => ?_)
  refine c_reg ?_ -- region 1 bookm.go:21
  refine wl_make (len := 24) (cap := 24) rfl rfl se_56 ze_9 (by simp) (by omega) (by omega) rfl bb_9 (fun xb w1 hbxb hU F1 => ?_)
  have hbsxb := Nat.le_trans hF.size hbxb
  have hneYkxb : Y.k < xb := Nat.lt_of_lt_of_le hK.lt hbxb
  replace hF := hF.thenDrew.thenN F1
  replace hK := F1.blkN hK
  replace hU : Blk w1.heap xb (rws stc zL) 9 := by (rw [← zc_rws (enc := stc) (x0 := []) rfl stc_len 24]; exact hU)
  replace hv := NaV.farN hb hv F1
  refine wl (ro_assign rfl) ?_
  refine wl_nil (x_then (hK2 _ _ ?_))
  clear hK2 K2
  refine c_seq (fun K3 hK3 => ?_)
  refine c_seq (fun K4 hK4 => ?_)
  refine c_reg ?_ -- region 2 bookm.go:22
  refine wl (ro_assign rfl) ?_
  refine wl_nil (x_then (hK4 _ _ ?_))
  clear hK4 K4
  refine c_block ?_
  -- loop@r3: live slots [0, 3, 4]
  refine c_loopG (fun m a' w' => ∃ i, m = 24 - i ∧ i ≤ 24 ∧ Blk w'.heap Y.k [ptr Y.N.e, V1, V2] 53 ∧ Blk w'.heap xb (rws stc (mixT T zL i)) 9 ∧ NaV w' Y.N hi sb T SL ∧ Fram none' w w' ∧ ∃ e, a' = Fr 20 (upds e [(0, ptr Y.k), (3, sl xb 24), (4, i64c i)]) []) 24 ⟨0, rfl, by omega, hK, by rw [mix_zero]; exact hU, hv, hF, kp _ ⟨rfl, rfl, rfl, trivial⟩⟩ ?_
  have hxb : w.heap.size ≤ xb := by omega
  have hkx : Y.k < xb := by assumption
  clear hF hK hU hv
  rintro m a' u1 ⟨i, rfl, hi24, hK, hU, hv, hF, e, rfl⟩
  have hml := mix_len (i := i) htl hzl
  refine c_seq (fun K5 hK5 => ?_)
  refine c_seq (fun K6 hK6 => ?_)
  refine c_reg ?_ -- region 3 bookm.go:22
  refine wl (ro_move rfl) ?_
  refine wl (ro_cmp (r := decide (i < 24)) rfl rfl (congrArg some (decide_eq_decide.2 (by omega)))) ?_
  refine wl_nil (x_then (hK6 _ _ ?_))
  clear hK6 K6
  refine wc_cond rfl (fun hc7 => ?_) (fun hc7 => ?_)
  · try simp only [decide_eq_true_eq, decide_eq_false_iff_not, Bool.not_eq_true', Bool.not_eq_false', Bool.not_eq_eq_eq_not, Bool.not_true, Bool.not_false, beq_iff_eq, bne_iff_ne, ne_eq, beq_eq_false_iff_ne, bne_eq_false_iff_eq, gt_iff_lt, ge_iff_le, Int.not_lt, Int.not_le] at hc7
    refine c_skip (x_then (hK5 _ _ ?_))
    clear hK5 K5
    refine forget [(0, _), (3, _), (4, _)] ⟨rfl, rfl, rfl, trivial⟩ (fun e => ?_)
    refine c_seq (fun K7 hK7 => ?_)
    refine c_block ?_
    refine c_reg ?_ -- region 5 bookm.go:23
    refine wl (ro_move rfl) ?_
    refine wl (ro_move rfl) ?_
    refine wl (ro_move rfl) ?_
    refine wl (ro_nilCheck rfl) ?_
    refine wl (ro_fieldAddr (k := 0) rfl fo_53_0) ?_
    refine wl (ro_loadB rfl sc_49 (by assumption) rfl) ?_
    refine wl (ro_move rfl) ?_
    refine wl_call rfl en_67 (Raw67 hv) ?_
    rintro _ u0 ⟨rfl, hw0⟩
    rw [getS_nat hc7, hw0]
    clear hw0 u0
    refine wl (ro_indexAddr (et := 9) (k := 1) rfl rfl se_56 (rfl) ((by omega))) ?_
    refine wl_put rfl rfl rfl sz_9 hU ((rw_fit stc_len (i := i) (j := 0) (m := 1) (by omega) (by omega) (by omega))) ((rw_put stc_len (i := i) (j := 0) (x := tF (mixT T zL i) i) (x' := tF T i) (tF_get (by omega)) (by omega) (by omega) rfl)) (fun w2 hU F2 => ?_)
    replace hF := hF.thenDrew.thenO F2 (by first | exact .inr (by omega) | exact .inl rfl | exact .inl (by assumption))
    replace hK := F2.blkO hK (by omega)
    rw [mix_set htl hzl hc7] at hU
    replace hv := hv.far hb F2 (fun b q1 q2 hh ↦ absurd (show b = xb from hh) (by omega)) (fun hh ↦ absurd (show sb = xb from hh) (by omega))
    refine wl_nil (x_blk (x_then (hK7 _ _ ?_)))
    clear hK7 K7
    refine c_reg ?_ -- region 4 bookm.go:22
    refine wl (ro_move rfl) ?_
    refine wl (ro_arith (r := ((i + 1 : Nat) : Int)) rfl rfl rfl (Go.IntWalk.i64_in _ (by omega))) ?_
    refine wl (ro_assign rfl) ?_
    refine wl_nil (x_then ?_)
    exact ⟨24 - (i + 1), by omega, i + 1, rfl, by omega, hK, hU, hv, hF, kp _ ⟨rfl, rfl, rfl, trivial⟩⟩
  · try simp only [decide_eq_true_eq, decide_eq_false_iff_not, Bool.not_eq_true', Bool.not_eq_false', Bool.not_eq_eq_eq_not, Bool.not_true, Bool.not_false, beq_iff_eq, bne_iff_ne, ne_eq, beq_eq_false_iff_ne, bne_eq_false_iff_eq, gt_iff_lt, ge_iff_le, Int.not_lt, Int.not_le] at hc7
    refine c_exit (x_thenX (x_thenX (x_blkX (x_then (hK3 _ _ ?_)))))
    clear hK5 K5 hK3 K3
    refine forget [(3, _)] ⟨rfl, trivial⟩ (fun e => ?_)
    refine c_seq (fun K8 hK8 => ?_)
    refine c_reg ?_ -- region 6 bookm.go:25
    refine wl (ro_move rfl) ?_
    refine wl (ro_assign rfl) ?_
    refine wl_nil (x_then (hK8 _ _ ?_))
    clear hK8 K8
    refine c_ret ?_
    refine bp_ret Tryz.results44 rfl ?_
    have : i = 24 := by omega
    subst this
    rw [mix_all htl hzl] at hU
    exact ⟨⟨xb, rfl, hxb, hU⟩, hF⟩

end Go.Proofs.Qxb6500570aGreat
