import Derived.Test.Qxb6500569aGreatHh
import Derived.Test.Qxb6500569aGreatPf
/- The real heap: the laying of a term. -/
namespace Go.Proofs.Qxb6500569aGreat
set_option linter.unusedVariables false
set_option linter.unusedSimpArgs false

/-- The places of the variables in the loader's own array. -/
def atR (l : List Value) (env : List (Option Nat)) : Prop := l.length = 6 ∧ ∀ k a, env.getD k none = some a → l[k]? = some (i32c a)

theorem atR_set {l : List Value} {env : List (Option Nat)} (h : atR l env) {k b : Nat} (hk : k < 6) (he : env.length = 6) : atR (l.set k (i32c b)) (env.set k (some b)) := by
  refine ⟨by simpa using h.1, fun j a ha => ?_⟩
  rw [List.getD_eq_getElem?_getD, List.getElem?_set] at ha
  rw [List.getElem?_set]
  by_cases hj : k = j
  · subst hj
    simp [he, hk] at ha
    simp [h.1, hk, ha]
  · simp only [hj, if_false] at ha ⊢
    exact h.2 j a (by rw [List.getD_eq_getElem?_getD]; exact ha)

structure LS (w : World) (L : HL) (P : RH) (V : Value) (ss : List Nat) (ab : Nat) (atl : List Value) (w' : World) : Prop where
  heap : HeapAt w'.heap L P
  own : Own w'.heap V 21 1 ss.length (ss.reverse.map i32c)
  loc : ∀ b, V.ownBlock = some b → w.heap.size ≤ b ∧ b ≠ ab
  at_ : Blk w'.heap ab atl 176
  abl : w.heap.size ≤ ab
  fr : Fram L.foot w w'

theorem LS.none {w w1 w2 : World} {L : HL} {P : RH} {V : Value} {ss : List Nat} {ab : Nat} {atl : List Value} (h : LS w L P V ss ab atl w1) (hf : Fram none' w1 w2) : LS w L P V ss ab atl w2 :=
  ⟨h.heap.fram0 hf, h.own.fram hf (fun _ _ h => h), h.loc, h.at_.fram hf (fun h => h), h.abl, h.fr.trans (hf.mono (fun _ _ h => h.elim))⟩

theorem LS.next {w w1 w2 : World} {L : HL} {R P P2 : RH} {V : Value} {ss : List Nat} {ab : Nat} {atl : List Value} (h : LS w L P V ss ab atl w1) (H0 : HeapAt w.heap L R) (H2 : HeapAt w2.heap L P2) (hf : Fram L.foot w1 w2) : LS w L P2 V ss ab atl w2 :=
  ⟨H2, h.own.fram hf (fun b hb hF => by have := (h.loc b hb).1; have := H0.lt hF; omega), h.loc, h.at_.fram hf (fun hF => by have := h.abl; have := H0.lt hF; omega), h.abl, h.fr.trans hf⟩

def nxt (P : RH) (ss : List Nat) (a nk : Nat) : RH := { P with args := (match ss with | [] => P.args | s :: _ => P.args.set s a) ++ List.replicate nk 0 }

set_option maxHeartbeats 1600000 in
theorem lay56 {w : World} {L : HL} {R : RH} (H : HeapAt w.heap L R) (wf : WFc R) {code : List UInt8} {ns : List Nd} (hl : Lays code R.tags.length ns) (hc : code.length ≤ 48) (hT : R.tags.length + ns.length ≤ 64) :
    Ret Tryz.prog 56 [ptr L.h, S code] w (fun r w' => ∃ P, HPost w L P w' ∧ WFc P ∧ P.abs = R.abs ++ ns ∧ Longer R P) := by
  obtain ⟨k0, env9, hld⟩ := hl
  refine ret_of Tryz.func56 rfl Tryz.ntmps56 rfl ?_
  refine c_seq (fun K1 hK1 => ?_)
  refine c_reg ?_ -- region 0 load.go:63
  refine wl (ro_assign rfl) ?_
  refine wl_nil (x_then (hK1 _ _ ?_))
  clear hK1 K1
  refine forget [(0, _), (1, _), (4, _)] ⟨rfl, rfl, rfl, trivial⟩ (fun e => ?_)
  refine c_seq (fun K2 hK2 => ?_)
  refine c_reg ?_ -- region 1 load.go:64
  refine wle (eo_alloc ze_176) ?_
  have hB5 := Blk.new w [Value.int .i32 0, .int .i32 0, .int .i32 0, .int .i32 0, .int .i32 0, .int .i32 0] 176
  refine wl_nil (x_then (hK2 _ _ ?_))
  clear hK2 K2
  refine forget [(0, _), (1, _), (4, _), (5, _)] ⟨rfl, rfl, rfl, rfl, trivial⟩ (fun e => ?_)
  refine c_seq (fun K3 hK3 => ?_)
  refine c_reg ?_ -- region 2 load.go:65
  refine wle (eo_make (len := 0) (cap := 48) rfl rfl se_65 ze_21 (by omega) (by omega) rfl bb_21) ?_
  refine wl (ro_assign rfl) ?_
  refine wl_nil (x_then (hK3 _ _ ?_))
  clear hK3 K3
  refine forget [(0, _), (1, _), (4, _), (5, _), (6, _)] ⟨rfl, rfl, rfl, rfl, rfl, trivial⟩ (fun e => ?_)
  refine c_seq (fun K4 hK4 => ?_)
  refine c_reg ?_ -- region 3 load.go:66
  refine wl (ro_assign rfl) ?_
  refine wl_nil (x_then (hK4 _ _ ?_))
  clear hK4 K4
  refine c_block ?_
  -- loop@r4: live slots [0, 1, 4, 5, 6, 7]
  refine c_loopG (fun m a' w' => ∃ p P V ss i ks env env' ns' s atl, m = (code.drop p).length ∧ Ld (ss.length + i) (code.drop p) env P.tags.length ks [] env' ns' ∧ (i = 0 ∨ (i = 1 ∧ ss = [])) ∧ envLt env P.tags.length ∧ env.length = 6 ∧ seenR s env ∧ atR atl env ∧ LayP R P (R.tags.length + ns.length) ss (ks.drop i) (R.abs ++ ns) ns' ∧ LS w L P V ss w.heap.size atl w' ∧ p ≤ code.length ∧ ∃ e, a' = Fr 169 (upds e [(0, ptr L.h), (1, S code), (4, .int .u8 (s : Int)), (5, ptr w.heap.size), (6, V), (7, i64c p)]) []) code.length ⟨0, R, _, [], 1, _, env0, _, ns, 0, _, rfl, hld, .inr ⟨rfl, rfl⟩, envLt0 _, rfl, seen0, ⟨rfl, fun k a ha => by have := envLt0 0 k a ha; omega⟩, layP_start wf hT, ⟨(H.alloc _).alloc _, ⟨rfl, .inr ⟨_, 48, List.replicate 48 (.int .i32 0), rfl, (by rw [made_zero]; exact Blk.new _ _ _), by simp, by omega, by simp, by simp⟩⟩, (fun b hb => by cases hb; simp), hB5.alloc _, Nat.le_refl _, (Fram.alloc _ _ _).thenAlloc⟩, by omega, kp _ ⟨rfl, rfl, rfl, rfl, rfl, rfl, trivial⟩⟩ ?_
  clear hB5
  rintro m a' w1 ⟨p, P, V, ss, i, ks, env, env', ns', s, atl, rfl, hL, hi, hE, hEl, hs, hat, hP, LS1, hp, e, rfl⟩
  obtain ⟨f1, f2, f3, f4, f5, f6⟩ := hL.facts hE
  have hdl : (code.drop p).length = code.length - p := by simp
  have hB := LS1.heap.st
  have hcap := hP.cap
  have htot := hP.tot
  have hl1 := hP.len1
  have hl2 := hP.len2
  have hac := hP.acap
  obtain ⟨a0, cap0, rfl⟩ := LS1.own.form
  refine c_seq (fun K5 hK5 => ?_)
  refine c_seq (fun K6 hK6 => ?_)
  refine c_reg ?_ -- region 4 load.go:66
  refine wl (ro_move rfl) ?_
  refine wl (ro_move rfl) ?_
  refine wl (ro_lenS rfl st_9) ?_
  refine wl (ro_cmp rfl rfl rfl) ?_
  refine wl_nil (x_then (hK6 _ _ ?_))
  clear hK6 K6
  refine wc_cond rfl (fun hc17 => ?_) (fun hc17 => ?_)
  · try simp only [decide_eq_true_eq, decide_eq_false_iff_not, Bool.not_eq_true', Bool.not_eq_false', Bool.not_eq_eq_eq_not, Bool.not_true, Bool.not_false, beq_iff_eq, bne_iff_ne, ne_eq, beq_eq_false_iff_ne, bne_eq_false_iff_eq, gt_iff_lt, ge_iff_le, Int.not_lt, Int.not_le] at hc17
    have hpl : p < code.length := by omega
    obtain ⟨want, hwant⟩ : ∃ k, ss.length + i = k + 1 := by
      rcases hx : ss.length + i with _ | k
      · rw [hx] at hL; have := hL.inv0.2.1; have := congrArg List.length this; simp at this; omega
      · exact ⟨k, rfl⟩
    rw [hwant] at hL
    obtain ⟨c, rest, hrest⟩ := hL.ne
    obtain ⟨hcp, hdr, _⟩ := drop_cons hrest
    rw [hrest] at hL
    refine c_skip (x_then (hK5 _ _ ?_))
    clear hK5 K5
    refine c_block ?_
    refine forget [(0, _), (1, _), (4, _), (5, _), (6, _), (7, _)] ⟨rfl, rfl, rfl, rfl, rfl, rfl, trivial⟩ (fun e => ?_)
    refine c_seq (fun K7 hK7 => ?_)
    refine c_reg ?_ -- region 5 load.go:67
    refine wl (ro_move rfl) ?_
    refine wl (ro_move rfl) ?_
    refine wl (ro_indexS rfl rfl st_9 rfl (hcp)) ?_
    refine wl (ro_assign rfl) ?_
    refine wl_nil (x_then (hK7 _ _ ?_))
    clear hK7 K7
    refine forget [(0, _), (1, _), (4, _), (5, _), (6, _), (7, _), (8, _)] ⟨rfl, rfl, rfl, rfl, rfl, rfl, rfl, trivial⟩ (fun e => ?_)
    refine c_seq (fun K8 hK8 => ?_)
    refine c_reg ?_ -- region 6 load.go:68
    refine wl (ro_move rfl) ?_
    refine wl (ro_nilCheck rfl) ?_
    refine wl (ro_fieldAddr (k := 0) rfl fo_69_0) ?_
    refine wl (ro_loadB rfl sc_64 (by assumption) rfl) ?_
    refine wl (ro_lenL rfl se_64) ?_
    refine wl (ro_conv rfl sc_3 in_21 (Go.IntWalk.i32_in _ (by omega))) ?_
    refine wl (ro_assign rfl) ?_
    refine wl_nil (x_then (hK8 _ _ ?_))
    clear hK8 K8
    refine forget [(0, _), (1, _), (4, _), (5, _), (6, _), (7, _), (8, _), (9, _)] ⟨rfl, rfl, rfl, rfl, rfl, rfl, rfl, rfl, trivial⟩ (fun e => ?_)
    refine c_seq (fun K9 hK9 => ?_)
    refine c_reg ?_ -- region 7 load.go:69
    refine wl (ro_assign rfl) ?_
    refine wl_nil (x_then (hK9 _ _ ?_))
    clear hK9 K9
    refine c_mid (fun a' w' => ∃ p' P1 nk a s env ks2 ns2 atl V, LS w L P1 V ss w.heap.size atl w' ∧ LayP R (nxt P1 ss a nk) (R.tags.length + ns.length) (List.range' P1.args.length nk ++ ss.tail) ks2 (R.abs ++ ns) ns2 ∧ Ld (nk + ss.tail.length) (code.drop p') env P1.tags.length ks2 [] env' ns2 ∧ (∀ x ∈ ss, x < P1.args.length) ∧ envLt env P1.tags.length ∧ env.length = 6 ∧ seenR s env ∧ atR atl env ∧ nk ≤ 4 ∧ p' ≤ code.length ∧ p < p' ∧ ∃ e, a' = Fr 169 (upds e [(0, ptr L.h), (1, S code), (4, .int .u8 (s : Int)), (5, ptr w.heap.size), (6, V), (7, i64c p'), (9, i32c a), (10, i64c nk)]) []) ?_ ?_
    · skip
      refine c_seq (fun K10 hK10 => ?_)
      refine c_reg ?_ -- region 8 load.go:70
      refine wl (ro_move rfl) ?_
      refine wl_call rfl en_99 (isVar99 c) ?_
      rintro _ w1 ⟨rfl, rfl⟩
      refine wl_nil (x_then (hK10 _ _ ?_))
      clear hK10 K10
      refine wc_cond rfl (fun hc28 => ?_) (fun hc28 => ?_)
      · try simp only [decide_eq_true_eq, decide_eq_false_iff_not, Bool.not_eq_true', Bool.not_eq_false', Bool.not_eq_eq_eq_not, Bool.not_true, Bool.not_false, beq_iff_eq, bne_iff_ne, ne_eq, beq_eq_false_iff_ne, bne_eq_false_iff_eq, gt_iff_lt, ge_iff_le, Int.not_lt, Int.not_le] at hc28
        have hvr : 65 ≤ c.toNat ∧ c.toNat < 71 := by simpa [isV] using hc28
        obtain ⟨v, hv⟩ : ∃ v, v = c.toNat - 65 := ⟨_, rfl⟩
        have hv6 : v < 6 := by omega
        have hvi : ((c.toNat : Int) - 65).toNat = v := by omega
        have hcase := hL.var hc28
        rw [← hv] at hcase
        refine c_seq (fun K11 hK11 => ?_)
        refine c_reg ?_ -- region 9 load.go:71
        refine wl (ro_move rfl) ?_
        refine wl (ro_arith rfl rfl rfl (Go.IntWalk.u8_in _ (by omega))) ?_
        refine wl (ro_shlR (r := ((2 ^ v : Nat) : Int)) rfl rfl (by show (0 : Int) ≤ (c.toNat : Int) - 65; omega) (by show IntKind.u8.wrap (1 * 2 ^ (min ((c.toNat : Int) - 65).toNat 8)) = _; rw [hvi]; exact shl6 v hv6)) ?_
        refine wl (ro_assign rfl) ?_
        refine wl_nil (x_then (hK11 _ _ ?_))
        clear hK11 K11
        refine c_seq (fun K12 hK12 => ?_)
        refine c_seq (fun K13 hK13 => ?_)
        refine c_reg ?_ -- region 10 load.go:72
        refine wl (ro_move rfl) ?_
        refine wl (ro_move rfl) ?_
        refine wl (ro_bits (r := (((if s.testBit v then 2 ^ v else 0) : Nat) : Int)) rfl rfl (congrArg some (and6 s hs.1 v hv6))) ?_
        refine wl (ro_cmp (r := !(env.getD v none).isSome) rfl rfl (by rw [← hs.2 v hv6]; have h0 := (pow6 v hv6).1; cases s.testBit v; rfl; exact congrArg some (beq_false_of_ne (by intro h; exact h0 (Int.ofNat_eq_zero.1 h))))) ?_
        refine wl_nil (x_then (hK13 _ _ ?_))
        clear hK13 K13
        refine wc_cond rfl (fun hc35 => ?_) (fun hc35 => ?_)
        · try simp only [decide_eq_true_eq, decide_eq_false_iff_not, Bool.not_eq_true', Bool.not_eq_false', Bool.not_eq_eq_eq_not, Bool.not_true, Bool.not_false, beq_iff_eq, bne_iff_ne, ne_eq, beq_eq_false_iff_ne, bne_eq_false_iff_eq, gt_iff_lt, ge_iff_le, Int.not_lt, Int.not_le] at hc35
          have hnone : env.getD v none = none := by cases hx : env.getD v none with | none => rfl | some a => rw [hx] at hc35; cases hc35
          have hcase : ∃ ks' ns1, ks = P.tags.length :: ks' ∧ ns' = vnd P.tags.length :: ns1 ∧ Ld want rest (env.set v (some P.tags.length)) (P.tags.length + 1) ks' [] env' ns1 := by
            rcases hcase with ⟨a, ks1, ha, _⟩ | ⟨ks1, ns1, ha, h1, h2, h3⟩
            · rw [hnone] at ha; cases ha
            · exact ⟨ks1, ns1, h1, h2, h3⟩
          obtain ⟨ks1, ns1, rfl, rfl, hL1⟩ := hcase
          simp only [List.length_cons] at htot
          refine c_seq (fun K14 hK14 => ?_)
          refine c_reg ?_ -- region 11 load.go:73
          refine wl (ro_move rfl) ?_
          refine wl (ro_move rfl) ?_
          refine wl (ro_bits (r := (((s ||| 2 ^ v) : Nat) : Int)) rfl rfl (congrArg some (or6 s hs.1 v hv6))) ?_
          refine wl (ro_assign rfl) ?_
          refine wl_nil (x_then (hK14 _ _ ?_))
          clear hK14 K14
          refine forget [(0, _), (1, _), (4, _), (5, _), (6, _), (7, _), (8, _), (9, _), (10, _)] ⟨rfl, rfl, rfl, rfl, rfl, rfl, rfl, rfl, rfl, trivial⟩ (fun e => ?_)
          refine c_seq (fun K15 hK15 => ?_)
          refine c_reg ?_ -- region 12 load.go:74
          refine wl (ro_move rfl) ?_
          refine wl (ro_arith rfl rfl rfl (Go.IntWalk.u8_in _ (by omega))) ?_
          refine wl (ro_move rfl) ?_
          refine wl (ro_indexAddrA (et := 21) (k := 1) rfl rfl ar_176 ((by show (_ : Int) = ((v : Nat) : Int); omega)) (hv6)) ?_
          refine wls (so_storeB rfl rfl rfl sz_21 (LS1.at_) (by rw [hat.1]; omega)) ?_
          have F2 : Fram none' w1 w1 := Fram.refl _ _
          have LS2 : LS w L P (.slice a0 ss.length cap0) ss w.heap.size (atl.set v (i32c P.tags.length)) (w1.setRow w.heap.size (atl.set v (i32c P.tags.length)).toArray) :=
            ⟨LS1.heap.fram (F := fun b => b = w.heap.size) (Fram.set w1 _ _ (.inl rfl)) (fun b hb h => by have := H.lt hb; omega), LS1.own.fram (F := fun b => b = w.heap.size) (Fram.set w1 _ _ (.inl rfl)) (fun b hb h => (LS1.loc b hb).2 h), LS1.loc, LS1.at_.set _, LS1.abl, LS1.fr.thenSet (.inr (Nat.le_refl _))⟩
          have eset : (atl.set (0 + v * 1) (i32c P.tags.length)) = atl.set v (i32c P.tags.length) := by rw [Nat.zero_add, Nat.mul_one]
          rw [← eset] at LS2
          refine gen2 (A := fun w2 => LS w L P (.slice a0 ss.length cap0) ss w.heap.size (atl.set (0 + v * 1) (i32c P.tags.length)) w2) (B := fun w2 => True) (C := fun w2 => WL _ _ _ _ _ w2) LS2 trivial ?_
          rw [eset]
          clear LS2 LS1 F2 hB
          intro w2 LS1 _
          have hB := LS1.heap.st
          refine wl_nil (x_then (hK15 _ _ ?_))
          clear hK15 K15
          refine forget [(0, _), (1, _), (4, _), (5, _), (6, _), (7, _), (8, _), (9, _), (10, _)] ⟨rfl, rfl, rfl, rfl, rfl, rfl, rfl, rfl, rfl, trivial⟩ (fun e => ?_)
          refine c_seq (fun K16 hK16 => ?_)
          refine c_reg ?_ -- region 13 load.go:75
          refine wl (ro_move rfl) ?_
          refine wl (ro_move rfl) ?_
          refine wl (ro_nilCheck rfl) ?_
          refine wl (ro_fieldAddr (k := 0) rfl fo_69_0) ?_
          refine wl (ro_loadB rfl sc_64 (by assumption) rfl) ?_
          refine wle (eo_bs1 rfl rfl se_64 zx_177 rfl rfl rfl) ?_
          have H3 := LS1.heap.alloc (.cells [i8c 0].toArray 177)
          have hN := Blk.new w2 [i8c 0] 177
          have hB := H3.st
          obtain ⟨j1, hA, hj⟩ := H3.tags
          refine wle (eo_appR (news := [i8c 0]) rfl rfl se_64 hA hN rfl rfl (by simp [i8c, Value.oneCell']) (by omega) (by simp at hj ⊢; omega)) ?_
          have hB4 := H3.st.set_ne ((P.tags.map i8c ++ j1).take (P.tags.length * 1) ++ [i8c 0] ++ (P.tags.map i8c ++ j1).drop (P.tags.length * 1 + 1 * 1)).toArray H3.ne.1.1
          refine wl (ro_nilCheck rfl) ?_
          refine wl (ro_fieldAddr (k := 0) rfl fo_69_0) ?_
          refine wls (so_storeB rfl rfl rfl sz_64 (hB4) (by simp)) ?_
          have H4 := H3.push_tags (xs := [0]) (ns := [i8c 0]) (q := P.tags.length * 1) (r := 1 * 1) (m := P.tags.length + 1) hA hj rfl (Nat.mul_one _) rfl rfl (by simp only [List.length_cons, List.length_nil]; omega)
          have F4 := ((Fram.alloc L.foot w2 (.cells [i8c 0].toArray 177)).thenSet (b := L.t) (cs := ((P.tags.map i8c ++ j1).take (P.tags.length * 1) ++ [i8c 0] ++ (P.tags.map i8c ++ j1).drop (P.tags.length * 1 + 1 * 1)).toArray) (.inl L.foot_t)).thenSet (b := L.h) (cs := ([sl L.t P.tags.length 64, sl L.w P.word.length 64, sl L.hd P.heads.length 128, sl L.a P.args.length 256, sl L.tr P.trail.length 64, sl L.m P.marks.length 26].set 0 (sl L.t (P.tags.length + 1) 64)).toArray) (.inl L.foot_h)
          have LS2 := LS1.next H H4 F4
          refine gen2 (A := fun w2 => LS w L { P with tags := P.tags ++ [0] } (.slice a0 ss.length cap0) ss w.heap.size (atl.set v (i32c P.tags.length)) w2) (B := fun w2 => True) (C := fun w2 => WL _ _ _ _ _ w2) LS2 trivial ?_
          clear LS2 LS1 F4 H4 H3 hB hB4 hA hj hN
          intro w2 LS1 _
          have hB := LS1.heap.st
          refine wl_nil (x_then (hK16 _ _ ?_))
          clear hK16 K16
          refine forget [(0, _), (1, _), (4, _), (5, _), (6, _), (7, _), (8, _), (9, _), (10, _)] ⟨rfl, rfl, rfl, rfl, rfl, rfl, rfl, rfl, rfl, trivial⟩ (fun e => ?_)
          refine c_seq (fun K17 hK17 => ?_)
          refine c_reg ?_ -- region 14 load.go:76
          refine wl (ro_move rfl) ?_
          refine wl (ro_move rfl) ?_
          refine wl (ro_nilCheck rfl) ?_
          refine wl (ro_fieldAddr (k := 1) rfl fo_69_1) ?_
          refine wl (ro_loadB rfl sc_65 (by assumption) rfl) ?_
          refine wl (ro_move rfl) ?_
          refine wle (eo_bs1 rfl rfl se_65 zx_21 rfl rfl rfl) ?_
          have H3 := LS1.heap.alloc (.cells [i32c P.tags.length].toArray 21)
          have hN := Blk.new w2 [i32c P.tags.length] 21
          have hB := H3.st
          obtain ⟨j1, hA, hj⟩ := H3.word
          refine wle (eo_appR (news := [i32c P.tags.length]) rfl rfl se_65 hA hN rfl rfl (by simp [i32c, Value.oneCell']) (by show P.word.length + 1 ≤ 64; omega) (by simp at hj ⊢; omega)) ?_
          have hB4 := H3.st.set_ne ((P.word.map i32c ++ j1).take (P.word.length * 1) ++ [i32c P.tags.length] ++ (P.word.map i32c ++ j1).drop (P.word.length * 1 + 1 * 1)).toArray H3.ne.1.2.1
          refine wl (ro_nilCheck rfl) ?_
          refine wl (ro_fieldAddr (k := 1) rfl fo_69_1) ?_
          refine wls (so_storeB rfl rfl rfl sz_65 (hB4) (by simp)) ?_
          have H4 := H3.push_word (xs := [P.tags.length]) (ns := [i32c P.tags.length]) (q := P.word.length * 1) (r := 1 * 1) (m := P.word.length + 1) hA hj rfl (Nat.mul_one _) rfl rfl (by simp only [List.length_cons, List.length_nil]; omega)
          have F4 := ((Fram.alloc L.foot w2 (.cells [i32c P.tags.length].toArray 21)).thenSet (b := L.w) (cs := ((P.word.map i32c ++ j1).take (P.word.length * 1) ++ [i32c P.tags.length] ++ (P.word.map i32c ++ j1).drop (P.word.length * 1 + 1 * 1)).toArray) (.inl L.foot_w)).thenSet (b := L.h) (cs := ([sl L.t (P.tags ++ [0]).length 64, sl L.w P.word.length 64, sl L.hd P.heads.length 128, sl L.a P.args.length 256, sl L.tr P.trail.length 64, sl L.m P.marks.length 26].set 1 (sl L.w (P.word.length + 1) 64)).toArray) (.inl L.foot_h)
          have LS2 := LS1.next H H4 F4
          refine gen2 (A := fun w2 => LS w L { P with tags := P.tags ++ [0], word := P.word ++ [P.tags.length] } (.slice a0 ss.length cap0) ss w.heap.size (atl.set v (i32c P.tags.length)) w2) (B := fun w2 => True) (C := fun w2 => WL _ _ _ _ _ w2) LS2 trivial ?_
          clear LS2 LS1 F4 H4 H3 hB hB4 hA hj hN
          intro w2 LS1 _
          have hB := LS1.heap.st
          refine wl_nil (x_then (hK17 _ _ ?_))
          clear hK17 K17
          refine c_reg ?_ -- region 15 load.go:77
          refine wl (ro_move rfl) ?_
          refine wl (ro_move rfl) ?_
          refine wl (ro_nilCheck rfl) ?_
          refine wl (ro_fieldAddr (k := 2) rfl fo_69_2) ?_
          refine wl (ro_loadB rfl sc_66 (by assumption) rfl) ?_
          refine wle (eo_bs2 rfl rfl rfl rfl se_66 zx_5) ?_
          have H3 := LS1.heap.alloc (.cells [u8c 0, u8c 0].toArray 5)
          have hN := Blk.new w2 [u8c 0, u8c 0] 5
          have hB := H3.st
          obtain ⟨j1, hA, hj⟩ := H3.heads
          refine wle (eo_appR (news := [u8c 0, u8c 0]) rfl rfl se_66 hA hN rfl rfl (by simp [u8c, Value.oneCell']) (by show P.heads.length + 2 ≤ 128; omega) (by simp at hj ⊢; omega)) ?_
          have hB4 := H3.st.set_ne ((P.heads.map u8c ++ j1).take (P.heads.length * 1) ++ [u8c 0, u8c 0] ++ (P.heads.map u8c ++ j1).drop (P.heads.length * 1 + 2 * 1)).toArray H3.ne.1.2.2.1
          refine wl (ro_nilCheck rfl) ?_
          refine wl (ro_fieldAddr (k := 2) rfl fo_69_2) ?_
          refine wls (so_storeB rfl rfl rfl sz_66 (hB4) (by simp)) ?_
          have H4 := H3.push_heads (xs := [0, 0]) (ns := [u8c 0, u8c 0]) (q := P.heads.length * 1) (r := 2 * 1) (m := P.heads.length + 2) hA hj rfl (Nat.mul_one _) rfl rfl (by simp only [List.length_cons, List.length_nil]; omega)
          have F4 := ((Fram.alloc L.foot w2 (.cells [u8c 0, u8c 0].toArray 5)).thenSet (b := L.hd) (cs := ((P.heads.map u8c ++ j1).take (P.heads.length * 1) ++ [u8c 0, u8c 0] ++ (P.heads.map u8c ++ j1).drop (P.heads.length * 1 + 2 * 1)).toArray) (.inl L.foot_hd)).thenSet (b := L.h) (cs := ([sl L.t (P.tags ++ [0]).length 64, sl L.w (P.word ++ [P.tags.length]).length 64, sl L.hd P.heads.length 128, sl L.a P.args.length 256, sl L.tr P.trail.length 64, sl L.m P.marks.length 26].set 2 (sl L.hd (P.heads.length + 2) 128)).toArray) (.inl L.foot_h)
          have LS2 := LS1.next H H4 F4
          refine gen2 (A := fun w2 => LS w L { P with tags := P.tags ++ [0], word := P.word ++ [P.tags.length], heads := P.heads ++ [0, 0] } (.slice a0 ss.length cap0) ss w.heap.size (atl.set v (i32c P.tags.length)) w2) (B := fun w2 => True) (C := fun w2 => WL _ _ _ _ _ w2) LS2 trivial ?_
          clear LS2 LS1 F4 H4 H3 hB hB4 hA hj hN
          intro w2 LS1 _
          refine wl_nil (x_then (hK12 _ _ ?_))
          clear hK12 K12
          refine forget [(0, _), (1, _), (4, _), (5, _), (6, _), (7, _), (8, _), (10, _)] ⟨rfl, rfl, rfl, rfl, rfl, rfl, rfl, rfl, trivial⟩ (fun e => ?_)
          refine c_seq (fun K18 hK18 => ?_)
          refine c_reg ?_ -- region 16 load.go:79
          refine wl (ro_move rfl) ?_
          refine wl (ro_arith rfl rfl rfl (Go.IntWalk.u8_in _ (by omega))) ?_
          refine wl (ro_indexAddrA (et := 21) (k := 1) rfl rfl ar_176 ((by show (_ : Int) = ((v : Nat) : Int); omega)) (hv6)) ?_
          refine wl (ro_loadB rfl sc_21 (LS1.at_) ((by rw [Nat.zero_add, Nat.mul_one, List.getElem?_set, if_pos rfl, if_pos (by rw [hat.1]; exact hv6)]))) ?_
          refine wl (ro_assign rfl) ?_
          refine wl_nil (x_then (hK18 _ _ ?_))
          clear hK18 K18
          refine c_reg ?_ -- region 17 load.go:80
          refine wl (ro_move rfl) ?_
          refine wl (ro_arith rfl rfl rfl (Go.IntWalk.i64_in _ (by omega))) ?_
          refine wl (ro_assign rfl) ?_
          refine wl_nil (x_then ?_)
          have hPv := layP_var hP
          refine ⟨p + 1, _, 0, P.tags.length, s ||| 2 ^ v, env.set v (some P.tags.length), ks1, ns1, _, _, LS1, ?_, ?_, fun x hx => (hP.sl x hx).2, ?_, by simpa using hEl, seen_set hs hv6 hEl, atR_set hat hv6 hEl, by omega, by omega, by omega, kp _ ⟨rfl, rfl, rfl, rfl, rfl, rfl, rfl, rfl, trivial⟩⟩
          · rcases hi with rfl | ⟨rfl, rfl⟩
            · cases ss with
              | nil => simp at hwant
              | cons s0 ss => simpa [nxt] using layP_old hPv
            · simpa [nxt] using hPv
          · rw [hdr]
            have : 0 + ss.tail.length = want := by
              rcases hi with rfl | ⟨rfl, rfl⟩
              · cases ss with
                | nil => simp at hwant
                | cons s0 ss => simp at hwant ⊢; omega
              · simp at hwant ⊢; omega
            rw [this]
            simpa using hL1
          · have := envLt_set (i := v) hE
            simpa using this
        · try simp only [decide_eq_true_eq, decide_eq_false_iff_not, Bool.not_eq_true', Bool.not_eq_false', Bool.not_eq_eq_eq_not, Bool.not_true, Bool.not_false, beq_iff_eq, bne_iff_ne, ne_eq, beq_eq_false_iff_ne, bne_eq_false_iff_eq, gt_iff_lt, ge_iff_le, Int.not_lt, Int.not_le] at hc35
          have hsome : ∃ a, env.getD v none = some a := by cases hx : env.getD v none with | none => rw [hx] at hc35; cases hc35 | some a => exact ⟨a, rfl⟩
          obtain ⟨a, ha⟩ := hsome
          have hcase : ∃ ks', ks = a :: ks' ∧ Ld want rest env P.tags.length ks' [] env' ns' := by
            rcases hcase with ⟨a', ks1, ha', h2, h3⟩ | ⟨ks1, ns1, hx, _⟩
            · rw [ha] at ha'; cases ha'; exact ⟨ks1, h2, h3⟩
            · rw [ha] at hx; cases hx
          obtain ⟨ks1, rfl, hL1⟩ := hcase
          refine c_skip (x_then (hK12 _ _ ?_))
          clear hK12 K12
          refine forget [(0, _), (1, _), (4, _), (5, _), (6, _), (7, _), (8, _), (10, _)] ⟨rfl, rfl, rfl, rfl, rfl, rfl, rfl, rfl, trivial⟩ (fun e => ?_)
          refine c_seq (fun K19 hK19 => ?_)
          refine c_reg ?_ -- region 16 load.go:79
          refine wl (ro_move rfl) ?_
          refine wl (ro_arith rfl rfl rfl (Go.IntWalk.u8_in _ (by omega))) ?_
          refine wl (ro_indexAddrA (et := 21) (k := 1) rfl rfl ar_176 ((by show (_ : Int) = ((v : Nat) : Int); omega)) (hv6)) ?_
          refine wl (ro_loadB rfl sc_21 (LS1.at_) ((by rw [Nat.zero_add, Nat.mul_one]; exact hat.2 v a ha))) ?_
          refine wl (ro_assign rfl) ?_
          refine wl_nil (x_then (hK19 _ _ ?_))
          clear hK19 K19
          refine c_reg ?_ -- region 17 load.go:80
          refine wl (ro_move rfl) ?_
          refine wl (ro_arith rfl rfl rfl (Go.IntWalk.i64_in _ (by omega))) ?_
          refine wl (ro_assign rfl) ?_
          refine wl_nil (x_then ?_)
          refine ⟨p + 1, P, 0, a, s, env, ks1, ns', _, _, LS1, ?_, ?_, fun x hx => (hP.sl x hx).2, hE, hEl, hs, hat, by omega, by omega, by omega, kp _ ⟨rfl, rfl, rfl, rfl, rfl, rfl, rfl, rfl, trivial⟩⟩
          · rcases hi with rfl | ⟨rfl, rfl⟩
            · cases ss with
              | nil => simp at hwant
              | cons s0 ss => simpa [nxt] using layP_old hP
            · simpa [nxt] using hP
          · rw [hdr]
            have : 0 + ss.tail.length = want := by
              rcases hi with rfl | ⟨rfl, rfl⟩
              · cases ss with
                | nil => simp at hwant
                | cons s0 ss => simp at hwant ⊢; omega
              · simp at hwant ⊢; omega
            rw [this]
            exact hL1
      · try simp only [decide_eq_true_eq, decide_eq_false_iff_not, Bool.not_eq_true', Bool.not_eq_false', Bool.not_eq_eq_eq_not, Bool.not_true, Bool.not_false, beq_iff_eq, bne_iff_ne, ne_eq, beq_eq_false_iff_ne, bne_eq_false_iff_eq, gt_iff_lt, ge_iff_le, Int.not_lt, Int.not_le] at hc28
        obtain ⟨d, code1, ks1, r1, env1, ns1, ks2, ns2, hF, rfl, hD, hL1, hL2, rfl, rfl⟩ := hL.str hc28
        obtain ⟨hdp, hdr2, hpl2⟩ := drop_cons hdr
        have hdd : 48 ≤ d.toNat ∧ d.toNat ≤ 52 := by simpa [isD] using hD
        have hLL := hL1.append hL2
        obtain ⟨g1, g2, g3, g4, g5, g6⟩ := hL1.facts (fun i a ha => by have := hE i a ha; omega)
        simp only [List.length_cons, List.length_append] at htot
        refine c_seq (fun K20 hK20 => ?_)
        refine c_reg ?_ -- region 18 load.go:82
        refine wl (ro_move rfl) ?_
        refine wl (ro_move rfl) ?_
        refine wl (ro_arith rfl rfl rfl (Go.IntWalk.i64_in _ (by omega))) ?_
        refine wl (ro_indexS rfl rfl st_9 ((by show (_ : Int) = ((p + 1 : Nat) : Int); omega)) (hdp)) ?_
        refine wl (ro_arith rfl rfl rfl (Go.IntWalk.u8_in _ (by omega))) ?_
        refine wl (ro_conv rfl sc_5 in_3 (Go.IntWalk.i64_in _ (by omega))) ?_
        refine wl (ro_assign rfl) ?_
        refine wl_nil (x_then (hK20 _ _ ?_))
        clear hK20 K20
        refine forget [(0, _), (1, _), (4, _), (5, _), (6, _), (7, _), (8, _), (9, _), (10, _)] ⟨rfl, rfl, rfl, rfl, rfl, rfl, rfl, rfl, rfl, trivial⟩ (fun e => ?_)
        refine c_seq (fun K21 hK21 => ?_)
        refine c_reg ?_ -- region 19 load.go:83
        refine wl (ro_move rfl) ?_
        refine wl (ro_move rfl) ?_
        refine wl (ro_nilCheck rfl) ?_
        refine wl (ro_fieldAddr (k := 0) rfl fo_69_0) ?_
        refine wl (ro_loadB rfl sc_64 (by assumption) rfl) ?_
        refine wle (eo_bs1 rfl rfl se_64 zx_177 rfl rfl rfl) ?_
        have H3 := LS1.heap.alloc (.cells [i8c 1].toArray 177)
        have hN := Blk.new w1 [i8c 1] 177
        have hB := H3.st
        obtain ⟨j1, hA, hj⟩ := H3.tags
        refine wle (eo_appR (news := [i8c 1]) rfl rfl se_64 hA hN rfl rfl (by simp [i8c, Value.oneCell']) (by omega) (by simp at hj ⊢; omega)) ?_
        have hB4 := H3.st.set_ne ((P.tags.map i8c ++ j1).take (P.tags.length * 1) ++ [i8c 1] ++ (P.tags.map i8c ++ j1).drop (P.tags.length * 1 + 1 * 1)).toArray H3.ne.1.1
        refine wl (ro_nilCheck rfl) ?_
        refine wl (ro_fieldAddr (k := 0) rfl fo_69_0) ?_
        refine wls (so_storeB rfl rfl rfl sz_64 (hB4) (by simp)) ?_
        have H4 := H3.push_tags (xs := [1]) (ns := [i8c 1]) (q := P.tags.length * 1) (r := 1 * 1) (m := P.tags.length + 1) hA hj rfl (Nat.mul_one _) rfl rfl (by simp only [List.length_cons, List.length_nil]; omega)
        have F4 := ((Fram.alloc L.foot w1 (.cells [i8c 1].toArray 177)).thenSet (b := L.t) (cs := ((P.tags.map i8c ++ j1).take (P.tags.length * 1) ++ [i8c 1] ++ (P.tags.map i8c ++ j1).drop (P.tags.length * 1 + 1 * 1)).toArray) (.inl L.foot_t)).thenSet (b := L.h) (cs := ([sl L.t P.tags.length 64, sl L.w P.word.length 64, sl L.hd P.heads.length 128, sl L.a P.args.length 256, sl L.tr P.trail.length 64, sl L.m P.marks.length 26].set 0 (sl L.t (P.tags.length + 1) 64)).toArray) (.inl L.foot_h)
        have LS2 := LS1.next H H4 F4
        refine gen2 (A := fun w2 => LS w L { P with tags := P.tags ++ [1] } (.slice a0 ss.length cap0) ss w.heap.size atl w2) (B := fun w2 => True) (C := fun w2 => WL _ _ _ _ _ w2) LS2 trivial ?_
        clear LS2 LS1 F4 H4 H3 hB hB4 hA hj hN
        intro w2 LS1 _
        have hB := LS1.heap.st
        refine wl_nil (x_then (hK21 _ _ ?_))
        clear hK21 K21
        refine forget [(0, _), (1, _), (4, _), (5, _), (6, _), (7, _), (8, _), (9, _), (10, _)] ⟨rfl, rfl, rfl, rfl, rfl, rfl, rfl, rfl, rfl, trivial⟩ (fun e => ?_)
        refine c_seq (fun K22 hK22 => ?_)
        refine c_piL 15 [(0, false), (1, false), (2, false), (3, false), (4, false), (5, false), (6, false), (7, false), (8, false), (9, false), (10, false), (11, true), (12, true), (13, false), (14, false)] (fun w' => Blk w'.heap L.h [sl L.t (P.tags ++ [1]).length 64, sl L.w P.word.length 64, sl L.hd P.heads.length 128, sl L.a P.args.length 256, sl L.tr P.trail.length 64, sl L.m P.marks.length 26] 69) mixed (by kernel_rfl) rfl (by kernel_rfl) (po_then (po_then (po_blk (po_then (po_blk (po_bp)))))) (hB) ?_ -- region 20 load.go:84
        refine ql_ro rfl (fun w hS => ro_move rfl) ?_
        refine ql_ro rfl (fun w hS => ro_move rfl) ?_
        refine ql_ro rfl (fun w hS => ro_nilCheck rfl) ?_
        refine ql_ro rfl (fun w hS => ro_fieldAddr (k := 1) rfl fo_69_1) ?_
        refine ql_ro rfl (fun w hS => ro_loadB rfl sc_65 (hS) rfl) ?_
        refine ql_ro rfl (fun w hS => ro_move rfl) ?_
        refine ql_ro rfl (fun w hS => ro_nilCheck rfl) ?_
        refine ql_ro rfl (fun w hS => ro_fieldAddr (k := 3) rfl fo_69_3) ?_
        refine ql_ro rfl (fun w hS => ro_loadB rfl sc_65 (hS) rfl) ?_
        refine ql_ro rfl (fun w hS => ro_lenL rfl se_65) ?_
        refine ql_ro rfl (fun w hS => ro_conv rfl sc_3 in_21 (Go.IntWalk.i32_in _ (by omega))) ?_
        refine ql_eo rfl (eo_bs1 rfl rfl se_65 zx_21 rfl rfl rfl) (hB.alloc _) ?_
        have LS1d := LS1.none (Fram.drew none' _ (w2.drawn + 1))
        have H3 := LS1d.heap.alloc (.cells [i32c P.args.length].toArray 21)
        have hN := Blk.new { w2 with drawn := w2.drawn + 1 } [i32c P.args.length] 21
        have hB3 := H3.st
        obtain ⟨j1, hA, hj⟩ := H3.word
        refine ql_eo rfl (eo_appR (news := [i32c P.args.length]) rfl rfl se_65 hA hN rfl rfl (by simp [i32c, Value.oneCell']) (by show P.word.length + 1 ≤ 64; omega) (by simp at hj ⊢; omega)) (hB3.set_ne _ H3.ne.1.2.1) ?_
        have hB4 := hB3.set_ne ((P.word.map i32c ++ j1).take (P.word.length * 1) ++ [i32c P.args.length] ++ (P.word.map i32c ++ j1).drop (P.word.length * 1 + 1 * 1)).toArray H3.ne.1.2.1
        refine ql_ro rfl (fun w hS => ro_nilCheck rfl) ?_
        refine ql_ro rfl (fun w hS => ro_fieldAddr (k := 1) rfl fo_69_1) ?_
        refine ql_last rfl (so_storeB rfl rfl rfl sz_65 (hB4) (by simp)) ?_
        have H4 := H3.push_word (xs := [P.args.length]) (ns := [i32c P.args.length]) (q := P.word.length * 1) (r := 1 * 1) (m := P.word.length + 1) hA hj rfl (Nat.mul_one _) rfl rfl (by simp only [List.length_cons, List.length_nil]; omega)
        have F4 := ((Fram.drew L.foot w2 (w2.drawn + 1)).thenAlloc (o := .cells [i32c P.args.length].toArray 21)).thenSet (b := L.w) (cs := ((P.word.map i32c ++ j1).take (P.word.length * 1) ++ [i32c P.args.length] ++ (P.word.map i32c ++ j1).drop (P.word.length * 1 + 1 * 1)).toArray) (.inl L.foot_w) |>.thenSet (b := L.h) (cs := ([sl L.t (P.tags ++ [1]).length 64, sl L.w P.word.length 64, sl L.hd P.heads.length 128, sl L.a P.args.length 256, sl L.tr P.trail.length 64, sl L.m P.marks.length 26].set 1 (sl L.w (P.word.length + 1) 64)).toArray) (.inl L.foot_h)
        have LS2 := LS1.next H H4 F4
        refine x_then (hK22 _ _ ?_)
        clear hK22 K22
        refine forget [(0, _), (1, _), (4, _), (5, _), (6, _), (7, _), (8, _), (9, _), (10, _)] ⟨rfl, rfl, rfl, rfl, rfl, rfl, rfl, rfl, rfl, trivial⟩ (fun e => ?_)
        refine c_seq (fun K23 hK23 => ?_)
        refine gen2 (A := fun w2 => LS w L { P with tags := P.tags ++ [1], word := P.word ++ [P.args.length] } (.slice a0 ss.length cap0) ss w.heap.size atl w2) (B := fun w2 => True) (C := fun w2 => WC _ _ _ _ w2) LS2 trivial ?_
        clear LS2 LS1 LS1d F4 H4 H3 hB hB3 hB4 hA hj hN
        intro w2 LS1 _
        have hB := LS1.heap.st
        refine c_piL 14 [(0, false), (1, false), (2, false), (3, false), (4, false), (5, false), (6, false), (7, false), (8, false), (9, false), (10, true), (11, true), (12, false), (13, false)] (fun w' => Blk w'.heap L.h [sl L.t (P.tags ++ [1]).length 64, sl L.w (P.word ++ [P.args.length]).length 64, sl L.hd P.heads.length 128, sl L.a P.args.length 256, sl L.tr P.trail.length 64, sl L.m P.marks.length 26] 69) mixed (by kernel_rfl) rfl (by kernel_rfl) (po_then (po_then (po_blk (po_then (po_blk (po_bp)))))) (hB) ?_ -- region 21 load.go:85
        refine ql_ro rfl (fun w hS => ro_move rfl) ?_
        refine ql_ro rfl (fun w hS => ro_move rfl) ?_
        refine ql_ro rfl (fun w hS => ro_nilCheck rfl) ?_
        refine ql_ro rfl (fun w hS => ro_fieldAddr (k := 2) rfl fo_69_2) ?_
        refine ql_ro rfl (fun w hS => ro_loadB rfl sc_66 (hS) rfl) ?_
        refine ql_ro rfl (fun w hS => ro_move rfl) ?_
        refine ql_ro rfl (fun w hS => ro_move rfl) ?_
        refine ql_ro rfl (fun w hS => ro_move rfl) ?_
        refine ql_ro rfl (fun w hS => ro_arith rfl rfl rfl (Go.IntWalk.i64_in _ (by omega))) ?_
        refine ql_ro rfl (fun w hS => ro_indexS rfl rfl st_9 ((by show (_ : Int) = ((p + 1 : Nat) : Int); omega)) (hdp)) ?_
        refine ql_eo rfl (eo_bs2 rfl rfl rfl rfl se_66 zx_5) (hB.alloc _) ?_
        have LS1d := LS1.none (Fram.drew none' _ (w2.drawn + 1))
        have H3 := LS1d.heap.alloc (.cells [u8c c, u8c d].toArray 5)
        have hN := Blk.new { w2 with drawn := w2.drawn + 1 } [u8c c, u8c d] 5
        have hB3 := H3.st
        obtain ⟨j1, hA, hj⟩ := H3.heads
        refine ql_eo rfl (eo_appR (news := [u8c c, u8c d]) rfl rfl se_66 hA hN rfl rfl (by simp [u8c, Value.oneCell']) (by show P.heads.length + 2 ≤ 128; omega) (by simp at hj ⊢; omega)) (hB3.set_ne _ H3.ne.1.2.2.1) ?_
        have hB4 := hB3.set_ne ((P.heads.map u8c ++ j1).take (P.heads.length * 1) ++ [u8c c, u8c d] ++ (P.heads.map u8c ++ j1).drop (P.heads.length * 1 + 2 * 1)).toArray H3.ne.1.2.2.1
        refine ql_ro rfl (fun w hS => ro_nilCheck rfl) ?_
        refine ql_ro rfl (fun w hS => ro_fieldAddr (k := 2) rfl fo_69_2) ?_
        refine ql_last rfl (so_storeB rfl rfl rfl sz_66 (hB4) (by simp)) ?_
        have H4 := H3.push_heads (xs := [c, d]) (ns := [u8c c, u8c d]) (q := P.heads.length * 1) (r := 2 * 1) (m := P.heads.length + 2) hA hj rfl (Nat.mul_one _) rfl rfl (by simp only [List.length_cons, List.length_nil]; omega)
        have F4 := ((Fram.drew L.foot w2 (w2.drawn + 1)).thenAlloc (o := .cells [u8c c, u8c d].toArray 5)).thenSet (b := L.hd) (cs := ((P.heads.map u8c ++ j1).take (P.heads.length * 1) ++ [u8c c, u8c d] ++ (P.heads.map u8c ++ j1).drop (P.heads.length * 1 + 2 * 1)).toArray) (.inl L.foot_hd) |>.thenSet (b := L.h) (cs := ([sl L.t (P.tags ++ [1]).length 64, sl L.w (P.word ++ [P.args.length]).length 64, sl L.hd P.heads.length 128, sl L.a P.args.length 256, sl L.tr P.trail.length 64, sl L.m P.marks.length 26].set 2 (sl L.hd (P.heads.length + 2) 128)).toArray) (.inl L.foot_h)
        have LS2 := LS1.next H H4 F4
        refine x_then (hK23 _ _ ?_)
        clear hK23 K23
        refine gen2 (A := fun w2 => LS w L { P with tags := P.tags ++ [1], word := P.word ++ [P.args.length], heads := P.heads ++ [c, d] } (.slice a0 ss.length cap0) ss w.heap.size atl w2) (B := fun w2 => True) (C := fun w2 => WC _ _ _ _ w2) LS2 trivial ?_
        clear LS2 LS1 LS1d F4 H4 H3 hB hB3 hB4 hA hj hN
        intro w2 LS1 _
        refine c_reg ?_ -- region 22 load.go:86
        refine wl (ro_move rfl) ?_
        refine wl (ro_arith rfl rfl rfl (Go.IntWalk.i64_in _ (by omega))) ?_
        refine wl (ro_assign rfl) ?_
        refine wl_nil (x_then ?_)
        have hkT : ∀ k ∈ ks1, k < R.tags.length + ns.length := fun k hk => by have := g4 k hk; omega
        refine ⟨p + 1 + 1, _, d.toNat - 48, P.tags.length, s, env, ks1 ++ ks2, ns1 ++ ns2, _, _, LS1, ?_, ?_, fun x hx => (hP.sl x hx).2, ?_, hEl, hs, hat, by omega, by omega, by omega, kp _ ⟨rfl, rfl, rfl, rfl, rfl, ?_, rfl, ?_, trivial⟩⟩
        · rcases hi with rfl | ⟨rfl, rfl⟩
          · cases ss with
            | nil => simp at hwant
            | cons s0 ss =>
              have := layP_str (layP_old hP) hdd g1 hkT
              simpa [nxt, g1] using this
          · have := layP_str hP hdd g1 hkT
            simpa [nxt, g1] using this
        · rw [hdr2]
          have : d.toNat - 48 + ss.tail.length = d.toNat - 48 + want := by
            rcases hi with rfl | ⟨rfl, rfl⟩
            · cases ss with
              | nil => simp at hwant
              | cons s0 ss => simp at hwant ⊢; omega
            · simp at hwant ⊢; omega
          rw [this]
          simpa using hLL
        · intro i a ha
          have := hE i a ha
          simp; omega
        · show some (Value.int .i64 ((p : Int) + 2)) = some (.int .i64 ((p + 1 + 1 : Nat) : Int))
          congr 2
        · show some (Value.int .i64 ((d.toNat : Int) - 48)) = some (.int .i64 ((d.toNat - 48 : Nat) : Int))
          congr 2; omega
    clear LS1 hP hL hs hat hE hEl hcap htot hl1 hl2 hac hi hB f1 f2 f3 f4 f5 f6
    rintro a' w2 ⟨p', P1, nk, a, s, env, ks2, ns2, atl, V, LS2, hP2, hL2, hss, hE, hEl, hs, hat, hnk, hp', hpp, e, rfl⟩
    obtain ⟨f1, f2, f3, f4, f5, f6⟩ := hL2.facts hE
    have hdl' : (code.drop p').length = code.length - p' := by simp
    have htot := hP2.tot
    have hcap := hP2.cap
    have hac := hP2.acap
    simp only [nxt, List.length_append, List.length_replicate] at htot hac
    have hargl : (match ss with | [] => P1.args | s :: _ => P1.args.set s a).length = P1.args.length := by cases ss <;> simp
    rw [hargl] at hac
    obtain ⟨a0, cap0, rfl⟩ := LS2.own.form
    refine c_seq (fun K24 hK24 => ?_)
    refine c_seq (fun K25 hK25 => ?_)
    refine c_reg ?_ -- region 23 load.go:88
    refine wl (ro_move rfl) ?_
    refine wl (ro_lenL rfl se_65) ?_
    refine wl (ro_cmp rfl rfl rfl) ?_
    refine wl_nil (x_then (hK25 _ _ ?_))
    clear hK25 K25
    refine wc_cond rfl (fun hc125 => ?_) (fun hc125 => ?_)
    · try simp only [decide_eq_true_eq, decide_eq_false_iff_not, Bool.not_eq_true', Bool.not_eq_false', Bool.not_eq_eq_eq_not, Bool.not_true, Bool.not_false, beq_iff_eq, bne_iff_ne, ne_eq, beq_eq_false_iff_ne, bne_eq_false_iff_eq, gt_iff_lt, ge_iff_le, Int.not_lt, Int.not_le] at hc125
      obtain ⟨s0, st', rfl⟩ : ∃ t1 st', ss = t1 :: st' := by { cases ss with | nil => simp at hc125 | cons a b => exact ⟨a, b, rfl⟩ }
      obtain ⟨g, cap, l, hV, hBl, hc1, hc2, hl1, hl2⟩ := LS2.own.pos (by simp)
      cases hV
      have hB := LS2.heap.st
      have hs0 := hss s0 (by simp)
      obtain ⟨j4, hA, hj4⟩ := LS2.heap.args
      have hg : ((s0 :: st').reverse.map i32c)[st'.length]? = some (i32c s0) := by simp
      refine c_seq (fun K26 hK26 => ?_)
      refine c_piL 12 [(0, false), (1, false), (2, false), (3, false), (4, false), (5, false), (6, false), (7, false), (8, false), (9, false), (10, false), (11, false)] (SameH _) mixed (by kernel_rfl) rfl (by kernel_rfl) (po_then (po_then (po_blk (po_then (po_blk (po_bp)))))) (sameH_now _ _) ?_ -- region 24 load.go:89
      refine ql_ro rfl (fun w hS => ro_move rfl) ?_
      refine ql_ro rfl (fun w hS => ro_nilCheck rfl) ?_
      refine ql_ro rfl (fun w hS => ro_fieldAddr (k := 3) rfl fo_69_3) ?_
      refine ql_ro rfl (fun w hS => ro_loadB rfl sc_65 (Blk.of_heap (by assumption) hS) rfl) ?_
      refine ql_ro rfl (fun w hS => ro_move rfl) ?_
      refine ql_ro rfl (fun w hS => ro_move rfl) ?_
      refine ql_ro rfl (fun w hS => ro_lenL rfl se_65) ?_
      refine ql_ro rfl (fun w hS => ro_arith rfl rfl rfl (Go.IntWalk.i64_in _ (by omega))) ?_
      refine ql_ro rfl (fun w hS => ro_indexAddr (et := 21) (k := 1) rfl rfl se_65 ((by show (_ : Int) = ((st'.length : Nat) : Int); simp)) ((by simp))) ?_
      refine ql_ro rfl (fun w hS => ro_loadB rfl sc_21 (Blk.of_heap hBl hS) ((by rw [Nat.mul_one, Nat.zero_add]; exact own_get hl2 hg))) ?_
      refine ql_ro rfl (fun w hS => ro_move rfl) ?_
      refine ql_ro rfl (fun w hS => ro_indexAddr (et := 21) (k := 1) rfl rfl se_65 rfl (hs0)) ?_
      refine ql_last rfl (so_storeB rfl rfl rfl sz_21 (hA) (by simp; omega)) ?_
      have H5 := (LS2.none (Fram.drew none' _ (w2.drawn + 1))).heap.upArgs (arr_set (w := { w2 with drawn := w2.drawn + 1 }) hA hj4 (i := s0) (x := a) hs0) (by simp)
      have LS3 := LS2.next H H5 ((Fram.drew L.foot w2 (w2.drawn + 1)).thenSet (.inl L.foot_a))
      refine x_then (hK26 _ _ ?_)
      clear hK26 K26
      refine gen2 (A := fun w2 => LS w L { P1 with args := P1.args.set s0 a } (.slice (some ⟨g, 0, none⟩) (s0 :: st').length cap0) (s0 :: st') w.heap.size atl w2) (B := fun w2 => True) (C := fun w2 => WC _ _ _ _ w2) LS3 trivial ?_
      clear LS3 LS2 H5 hA hj4 hBl hl2 hB
      intro w3 LS3 _
      have LS4 : LS w L { P1 with args := P1.args.set s0 a } (.slice (some ⟨g, 0, none⟩) st'.length cap0) st' w.heap.size atl w3 := ⟨LS3.heap, by have := LS3.own.take (m := st'.length) (by simp); simpa using this, LS3.loc, LS3.at_, LS3.abl, LS3.fr⟩
      clear LS3
      refine c_reg ?_ -- region 25 load.go:90
      refine wl (ro_move rfl) ?_
      refine wl (ro_move rfl) ?_
      refine wl (ro_lenL rfl se_65) ?_
      refine wl (ro_arith rfl rfl rfl (Go.IntWalk.i64_in _ (by omega))) ?_
      refine wl (ro_sliceH (h := st'.length) rfl rfl se_65 (by simp) (by simp at hc1; omega)) ?_
      refine wl (ro_assign rfl) ?_
      refine wl_nil (x_then (hK24 _ _ ?_))
      clear hK24 K24
      refine c_seq (fun K27 hK27 => ?_)
      refine c_seq (fun K28 hK28 => ?_)
      obtain ⟨Q, hQ⟩ : ∃ Q : RH, Q = { P1 with args := P1.args.set s0 a } := ⟨_, rfl⟩
      have hQa : Q.args.length = P1.args.length := by rw [hQ]; simp
      have hP3 : LayP R { Q with args := Q.args ++ List.replicate nk 0 } (R.tags.length + ns.length) (List.range' Q.args.length nk ++ st') ks2 (R.abs ++ ns) ns2 := by rw [hQa, hQ]; exact hP2
      have hQt : Q.tags.length = P1.tags.length := by rw [hQ]
      rw [← hQ] at LS4
      simp only [List.tail_cons] at hL2 f1 f2 f3 f4 f5 f6
      rw [← hQt] at hL2 hE htot hac
      rw [← hQa] at hac
      clear hP2 hQ hss hargl
      generalize Value.slice (some ⟨g, 0, none⟩) st'.length cap0 = V0 at *
      obtain ⟨tl, htl⟩ : ∃ tl, tl = st' := ⟨_, rfl⟩
      subst htl
      refine c_reg ?_ -- region 26 load.go:92
      refine wl (ro_move rfl) ?_
      refine wl (ro_arith rfl rfl rfl (Go.IntWalk.i64_in _ (by omega))) ?_
      refine wl (ro_assign rfl) ?_
      refine wl_nil (x_then (hK28 _ _ ?_))
      clear hK28 K28
      refine c_block ?_
      -- loop@r27: live slots [0, 1, 4, 5, 6, 7, 10, 12]
      refine c_loopG (fun m a' w' => ∃ k V, m = k ∧ k ≤ nk ∧ LS w L Q V ((List.range' Q.args.length nk).drop k ++ tl) w.heap.size atl w' ∧ ∃ e, a' = Fr 169 (upds e [(0, ptr L.h), (1, S code), (4, .int .u8 (s : Int)), (5, ptr w.heap.size), (6, V), (7, i64c p'), (10, i64c nk), (12, .int .i64 ((k : Int) - 1))]) []) nk ⟨nk, V0, rfl, Nat.le_refl _, by rw [List.drop_of_length_le (by simp)]; exact LS4, kp _ ⟨rfl, rfl, rfl, rfl, rfl, rfl, rfl, rfl, trivial⟩⟩ ?_
      clear LS4
      rintro m a' w4 ⟨k, V, rfl, hk, LS5, e, rfl⟩
      obtain ⟨a5, cap5, rfl⟩ := LS5.own.form
      have hB := LS5.heap.st
      refine c_seq (fun K29 hK29 => ?_)
      refine c_seq (fun K30 hK30 => ?_)
      refine c_reg ?_ -- region 27 load.go:92
      refine wl (ro_move rfl) ?_
      refine wl (ro_cmp rfl rfl rfl) ?_
      refine wl_nil (x_then (hK30 _ _ ?_))
      clear hK30 K30
      refine wc_cond rfl (fun hc146 => ?_) (fun hc146 => ?_)
      · try simp only [decide_eq_true_eq, decide_eq_false_iff_not, Bool.not_eq_true', Bool.not_eq_false', Bool.not_eq_eq_eq_not, Bool.not_true, Bool.not_false, beq_iff_eq, bne_iff_ne, ne_eq, beq_eq_false_iff_ne, bne_eq_false_iff_eq, gt_iff_lt, ge_iff_le, Int.not_lt, Int.not_le] at hc146
        have hm0 : 0 < m := by omega
        have hxe : (Value.int .i32 ((Q.args.length : Int) + ((m : Int) - 1))) = i32c (Q.args.length + (m - 1)) := by unfold i32c; congr 1; omega
        have hlen5 : (List.drop m (List.range' Q.args.length nk) ++ tl).length ≤ 100 := by simp only [List.length_append, List.length_drop, List.length_range']; omega
        refine c_skip (x_then (hK29 _ _ ?_))
        clear hK29 K29
        refine forget [(0, _), (1, _), (4, _), (5, _), (6, _), (7, _), (10, _), (12, _)] ⟨rfl, rfl, rfl, rfl, rfl, rfl, rfl, rfl, trivial⟩ (fun e => ?_)
        refine c_seq (fun K31 hK31 => ?_)
        refine c_block ?_
        refine c_reg ?_ -- region 29 load.go:93
        refine wl (ro_move rfl) ?_
        refine wl (ro_move rfl) ?_
        refine wl (ro_nilCheck rfl) ?_
        refine wl (ro_fieldAddr (k := 3) rfl fo_69_3) ?_
        refine wl (ro_loadB rfl sc_65 (by assumption) rfl) ?_
        refine wl (ro_lenL rfl se_65) ?_
        refine wl (ro_move rfl) ?_
        refine wl (ro_arith rfl rfl rfl (Go.IntWalk.i64_in _ (by omega))) ?_
        refine wl ((show RO _ _ _ _ _ (i32c (Q.args.length + (m - 1))) from hxe ▸ ro_conv rfl sc_3 in_21 (Go.IntWalk.i32_in _ (by omega)))) ?_
        refine wle (eo_bs1 rfl rfl se_65 zx_21 rfl rfl rfl) ?_
        have hN := Blk.new w4 [i32c (Q.args.length + (m - 1))] 21
        have LS6 := LS5.none (Fram.alloc none' w4 (.cells [i32c (Q.args.length + (m - 1))].toArray 21))
        refine wl_app (news := [i32c (Q.args.length + (m - 1))]) rfl rfl se_65 zx_21 by_21 rfl LS6.own hN rfl rfl (by simp [i32c, Value.oneCell']) (by simp only [List.length_append, List.length_drop, List.length_range'] at hlen5 ⊢; omega) (by simp only [List.length_append, List.length_drop, List.length_range'] at hlen5 ⊢; omega) ?_
        intro V7 w7 hown hgr hloc
        refine wl (ro_assign rfl) ?_
        refine wl_nil (x_blk (x_then (hK31 _ _ ?_)))
        clear hK31 K31
        refine c_reg ?_ -- region 28 load.go:92
        refine wl (ro_move rfl) ?_
        refine wl (ro_arith rfl rfl rfl (Go.IntWalk.i64_in _ (by omega))) ?_
        refine wl (ro_assign rfl) ?_
        refine wl_nil (x_then ?_)
        have hmd : (List.range' Q.args.length nk).drop (m - 1) = (Q.args.length + (m - 1)) :: (List.range' Q.args.length nk).drop m := by
          have := List.drop_eq_getElem_cons (l := List.range' Q.args.length nk) (i := m - 1) (by simp; omega)
          rw [this, show m - 1 + 1 = m by omega]
          simp
        have FF : Fram (fun b => w.heap.size ≤ b ∧ b ≠ w.heap.size) w4 w7 := (Fram.alloc _ w4 _).thenGrown hgr (fun b hb => .inl (LS5.loc b hb))
        refine ⟨m - 1, by omega, m - 1, V7, rfl, by omega, ⟨LS5.heap.fram FF (fun b hb h => by have := H.lt hb; omega), ?_, ?_, LS5.at_.fram FF (fun h => h.2 rfl), LS5.abl, LS5.fr.trans' FF (fun k hk h => by omega)⟩, kp _ ⟨rfl, rfl, rfl, rfl, rfl, rfl, rfl, ?_, trivial⟩⟩
        · rw [hmd]
          simpa [Nat.add_comm, Nat.add_assoc, Nat.add_left_comm] using hown
        · intro b hb
          rcases hloc with h | h
          · rw [h] at hb; exact LS5.loc b hb
          · rw [h] at hb; cases hb
            have h1 := LS5.fr.size
            have h2 := LS5.at_.lt
            simp; omega
        · show some (Value.int .i64 ((m : Int) - 1 - 1)) = some (.int .i64 (((m - 1 : Nat) : Int) - 1))
          rw [show ((m - 1 : Nat) : Int) = (m : Int) - 1 by omega]
      · try simp only [decide_eq_true_eq, decide_eq_false_iff_not, Bool.not_eq_true', Bool.not_eq_false', Bool.not_eq_eq_eq_not, Bool.not_true, Bool.not_false, beq_iff_eq, bne_iff_ne, ne_eq, beq_eq_false_iff_ne, bne_eq_false_iff_eq, gt_iff_lt, ge_iff_le, Int.not_lt, Int.not_le] at hc146
        have hm0 : m = 0 := by omega
        subst hm0
        simp only [List.drop_zero] at LS5
        obtain ⟨j4, hA, hj4⟩ := LS5.heap.args
        simp only [List.length_map] at hj4
        refine c_exit (x_thenX (x_thenX (x_blkX (x_then (hK27 _ _ ?_)))))
        clear hK29 K29 hK27 K27
        refine c_reg ?_ -- region 30 load.go:95
        refine wl (ro_move rfl) ?_
        refine wl (ro_move rfl) ?_
        refine wl (ro_nilCheck rfl) ?_
        refine wl (ro_fieldAddr (k := 3) rfl fo_69_3) ?_
        refine wl (ro_loadB rfl sc_65 (by assumption) rfl) ?_
        refine wl (ro_move rfl) ?_
        refine wle (eo_appZ (k := nk) rfl rfl se_65 in_3 ze_21 bb_21 (by omega) hA rfl (by omega) (by simp; omega)) ?_
        have hB4 := LS5.heap.st.set_ne ((Q.args.map i32c ++ j4).take Q.args.length ++ List.replicate nk (Value.int .i32 0) ++ (Q.args.map i32c ++ j4).drop (Q.args.length + nk)).toArray LS5.heap.ne.1.2.2.2.1
        refine wl (ro_nilCheck rfl) ?_
        refine wl (ro_fieldAddr (k := 3) rfl fo_69_3) ?_
        refine wls (so_storeB rfl rfl rfl sz_65 (hB4) (by simp)) ?_
        have H6 := LS5.heap.push_args (xs := List.replicate nk 0) (ns := List.replicate nk (Value.int .i32 0)) (q := Q.args.length) (r := nk) (m := Q.args.length + nk) hA (by simpa using hj4) (by simp [i32c]) rfl (by simp) (by simp) (by simp; omega)
        have F6 := ((Fram.refl L.foot w4).thenSet (b := L.a) (cs := ((Q.args.map i32c ++ j4).take Q.args.length ++ List.replicate nk (Value.int .i32 0) ++ (Q.args.map i32c ++ j4).drop (Q.args.length + nk)).toArray) (.inl L.foot_a)).thenSet (b := L.h) (cs := ([sl L.t Q.tags.length 64, sl L.w Q.word.length 64, sl L.hd Q.heads.length 128, sl L.a Q.args.length 256, sl L.tr Q.trail.length 64, sl L.m Q.marks.length 26].set 3 (sl L.a (Q.args.length + nk) 256)).toArray) (.inl L.foot_h)
        have LS6 := LS5.next H H6 F6
        refine wl_nil (x_blk (x_then ?_))
        refine ⟨(code.drop p').length, by rw [hdl, hdl']; omega, p', { Q with args := Q.args ++ List.replicate nk 0 }, _, List.range' Q.args.length nk ++ tl, 0, ks2, env, env', ns2, s, atl, rfl, ?_, .inl rfl, hE, hEl, hs, hat, hP3, LS6, hp', kp _ ⟨rfl, rfl, rfl, rfl, rfl, rfl, trivial⟩⟩
        have : (List.range' Q.args.length nk ++ tl).length + 0 = nk + tl.length := by simp
        rw [this]
        exact hL2
    · try simp only [decide_eq_true_eq, decide_eq_false_iff_not, Bool.not_eq_true', Bool.not_eq_false', Bool.not_eq_eq_eq_not, Bool.not_true, Bool.not_false, beq_iff_eq, bne_iff_ne, ne_eq, beq_eq_false_iff_ne, bne_eq_false_iff_eq, gt_iff_lt, ge_iff_le, Int.not_lt, Int.not_le] at hc125
      refine c_skip (x_then (hK24 _ _ ?_))
      clear hK24 K24
      refine c_seq (fun K32 hK32 => ?_)
      refine c_seq (fun K33 hK33 => ?_)
      obtain rfl : ss = [] := by { cases ss with | nil => rfl | cons a b => simp at hc125; omega }
      obtain ⟨Q, hQ⟩ : ∃ Q : RH, Q = P1 := ⟨_, rfl⟩
      subst hQ
      have hP3 : LayP R { Q with args := Q.args ++ List.replicate nk 0 } (R.tags.length + ns.length) (List.range' Q.args.length nk ++ []) ks2 (R.abs ++ ns) ns2 := hP2
      have LS4 := LS2
      clear hP2 LS2 hss hargl
      simp only [List.tail_nil] at hL2 f1 f2 f3 f4 f5 f6
      generalize Value.slice a0 ([] : List Nat).length cap0 = V0 at *
      obtain ⟨tl, htl⟩ : ∃ tl : List Nat, tl = [] := ⟨_, rfl⟩
      rw [← htl] at LS4 hP3 hL2
      have htl0 : tl.length = 0 := by rw [htl]; rfl
      refine c_reg ?_ -- region 26 load.go:92
      refine wl (ro_move rfl) ?_
      refine wl (ro_arith rfl rfl rfl (Go.IntWalk.i64_in _ (by omega))) ?_
      refine wl (ro_assign rfl) ?_
      refine wl_nil (x_then (hK33 _ _ ?_))
      clear hK33 K33
      refine c_block ?_
      -- loop@r27: live slots [0, 1, 4, 5, 6, 7, 10, 12]
      refine c_loopG (fun m a' w' => ∃ k V, m = k ∧ k ≤ nk ∧ LS w L Q V ((List.range' Q.args.length nk).drop k ++ tl) w.heap.size atl w' ∧ ∃ e, a' = Fr 169 (upds e [(0, ptr L.h), (1, S code), (4, .int .u8 (s : Int)), (5, ptr w.heap.size), (6, V), (7, i64c p'), (10, i64c nk), (12, .int .i64 ((k : Int) - 1))]) []) nk ⟨nk, V0, rfl, Nat.le_refl _, by rw [List.drop_of_length_le (by simp)]; exact LS4, kp _ ⟨rfl, rfl, rfl, rfl, rfl, rfl, rfl, rfl, trivial⟩⟩ ?_
      clear LS4
      rintro m a' w4 ⟨k, V, rfl, hk, LS5, e, rfl⟩
      obtain ⟨a5, cap5, rfl⟩ := LS5.own.form
      have hB := LS5.heap.st
      refine c_seq (fun K34 hK34 => ?_)
      refine c_seq (fun K35 hK35 => ?_)
      refine c_reg ?_ -- region 27 load.go:92
      refine wl (ro_move rfl) ?_
      refine wl (ro_cmp rfl rfl rfl) ?_
      refine wl_nil (x_then (hK35 _ _ ?_))
      clear hK35 K35
      refine wc_cond rfl (fun hc146 => ?_) (fun hc146 => ?_)
      · try simp only [decide_eq_true_eq, decide_eq_false_iff_not, Bool.not_eq_true', Bool.not_eq_false', Bool.not_eq_eq_eq_not, Bool.not_true, Bool.not_false, beq_iff_eq, bne_iff_ne, ne_eq, beq_eq_false_iff_ne, bne_eq_false_iff_eq, gt_iff_lt, ge_iff_le, Int.not_lt, Int.not_le] at hc146
        have hm0 : 0 < m := by omega
        have hxe : (Value.int .i32 ((Q.args.length : Int) + ((m : Int) - 1))) = i32c (Q.args.length + (m - 1)) := by unfold i32c; congr 1; omega
        have hlen5 : (List.drop m (List.range' Q.args.length nk) ++ tl).length ≤ 100 := by simp only [List.length_append, List.length_drop, List.length_range']; omega
        refine c_skip (x_then (hK34 _ _ ?_))
        clear hK34 K34
        refine forget [(0, _), (1, _), (4, _), (5, _), (6, _), (7, _), (10, _), (12, _)] ⟨rfl, rfl, rfl, rfl, rfl, rfl, rfl, rfl, trivial⟩ (fun e => ?_)
        refine c_seq (fun K36 hK36 => ?_)
        refine c_block ?_
        refine c_reg ?_ -- region 29 load.go:93
        refine wl (ro_move rfl) ?_
        refine wl (ro_move rfl) ?_
        refine wl (ro_nilCheck rfl) ?_
        refine wl (ro_fieldAddr (k := 3) rfl fo_69_3) ?_
        refine wl (ro_loadB rfl sc_65 (by assumption) rfl) ?_
        refine wl (ro_lenL rfl se_65) ?_
        refine wl (ro_move rfl) ?_
        refine wl (ro_arith rfl rfl rfl (Go.IntWalk.i64_in _ (by omega))) ?_
        refine wl ((show RO _ _ _ _ _ (i32c (Q.args.length + (m - 1))) from hxe ▸ ro_conv rfl sc_3 in_21 (Go.IntWalk.i32_in _ (by omega)))) ?_
        refine wle (eo_bs1 rfl rfl se_65 zx_21 rfl rfl rfl) ?_
        have hN := Blk.new w4 [i32c (Q.args.length + (m - 1))] 21
        have LS6 := LS5.none (Fram.alloc none' w4 (.cells [i32c (Q.args.length + (m - 1))].toArray 21))
        refine wl_app (news := [i32c (Q.args.length + (m - 1))]) rfl rfl se_65 zx_21 by_21 rfl LS6.own hN rfl rfl (by simp [i32c, Value.oneCell']) (by simp only [List.length_append, List.length_drop, List.length_range'] at hlen5 ⊢; omega) (by simp only [List.length_append, List.length_drop, List.length_range'] at hlen5 ⊢; omega) ?_
        intro V7 w7 hown hgr hloc
        refine wl (ro_assign rfl) ?_
        refine wl_nil (x_blk (x_then (hK36 _ _ ?_)))
        clear hK36 K36
        refine c_reg ?_ -- region 28 load.go:92
        refine wl (ro_move rfl) ?_
        refine wl (ro_arith rfl rfl rfl (Go.IntWalk.i64_in _ (by omega))) ?_
        refine wl (ro_assign rfl) ?_
        refine wl_nil (x_then ?_)
        have hmd : (List.range' Q.args.length nk).drop (m - 1) = (Q.args.length + (m - 1)) :: (List.range' Q.args.length nk).drop m := by
          have := List.drop_eq_getElem_cons (l := List.range' Q.args.length nk) (i := m - 1) (by simp; omega)
          rw [this, show m - 1 + 1 = m by omega]
          simp
        have FF : Fram (fun b => w.heap.size ≤ b ∧ b ≠ w.heap.size) w4 w7 := (Fram.alloc _ w4 _).thenGrown hgr (fun b hb => .inl (LS5.loc b hb))
        refine ⟨m - 1, by omega, m - 1, V7, rfl, by omega, ⟨LS5.heap.fram FF (fun b hb h => by have := H.lt hb; omega), ?_, ?_, LS5.at_.fram FF (fun h => h.2 rfl), LS5.abl, LS5.fr.trans' FF (fun k hk h => by omega)⟩, kp _ ⟨rfl, rfl, rfl, rfl, rfl, rfl, rfl, ?_, trivial⟩⟩
        · rw [hmd]
          simpa [Nat.add_comm, Nat.add_assoc, Nat.add_left_comm] using hown
        · intro b hb
          rcases hloc with h | h
          · rw [h] at hb; exact LS5.loc b hb
          · rw [h] at hb; cases hb
            have h1 := LS5.fr.size
            have h2 := LS5.at_.lt
            simp; omega
        · show some (Value.int .i64 ((m : Int) - 1 - 1)) = some (.int .i64 (((m - 1 : Nat) : Int) - 1))
          rw [show ((m - 1 : Nat) : Int) = (m : Int) - 1 by omega]
      · try simp only [decide_eq_true_eq, decide_eq_false_iff_not, Bool.not_eq_true', Bool.not_eq_false', Bool.not_eq_eq_eq_not, Bool.not_true, Bool.not_false, beq_iff_eq, bne_iff_ne, ne_eq, beq_eq_false_iff_ne, bne_eq_false_iff_eq, gt_iff_lt, ge_iff_le, Int.not_lt, Int.not_le] at hc146
        have hm0 : m = 0 := by omega
        subst hm0
        simp only [List.drop_zero] at LS5
        obtain ⟨j4, hA, hj4⟩ := LS5.heap.args
        simp only [List.length_map] at hj4
        refine c_exit (x_thenX (x_thenX (x_blkX (x_then (hK32 _ _ ?_)))))
        clear hK34 K34 hK32 K32
        refine c_reg ?_ -- region 30 load.go:95
        refine wl (ro_move rfl) ?_
        refine wl (ro_move rfl) ?_
        refine wl (ro_nilCheck rfl) ?_
        refine wl (ro_fieldAddr (k := 3) rfl fo_69_3) ?_
        refine wl (ro_loadB rfl sc_65 (by assumption) rfl) ?_
        refine wl (ro_move rfl) ?_
        refine wle (eo_appZ (k := nk) rfl rfl se_65 in_3 ze_21 bb_21 (by omega) hA rfl (by omega) (by simp; omega)) ?_
        have hB4 := LS5.heap.st.set_ne ((Q.args.map i32c ++ j4).take Q.args.length ++ List.replicate nk (Value.int .i32 0) ++ (Q.args.map i32c ++ j4).drop (Q.args.length + nk)).toArray LS5.heap.ne.1.2.2.2.1
        refine wl (ro_nilCheck rfl) ?_
        refine wl (ro_fieldAddr (k := 3) rfl fo_69_3) ?_
        refine wls (so_storeB rfl rfl rfl sz_65 (hB4) (by simp)) ?_
        have H6 := LS5.heap.push_args (xs := List.replicate nk 0) (ns := List.replicate nk (Value.int .i32 0)) (q := Q.args.length) (r := nk) (m := Q.args.length + nk) hA (by simpa using hj4) (by simp [i32c]) rfl (by simp) (by simp) (by simp; omega)
        have F6 := ((Fram.refl L.foot w4).thenSet (b := L.a) (cs := ((Q.args.map i32c ++ j4).take Q.args.length ++ List.replicate nk (Value.int .i32 0) ++ (Q.args.map i32c ++ j4).drop (Q.args.length + nk)).toArray) (.inl L.foot_a)).thenSet (b := L.h) (cs := ([sl L.t Q.tags.length 64, sl L.w Q.word.length 64, sl L.hd Q.heads.length 128, sl L.a Q.args.length 256, sl L.tr Q.trail.length 64, sl L.m Q.marks.length 26].set 3 (sl L.a (Q.args.length + nk) 256)).toArray) (.inl L.foot_h)
        have LS6 := LS5.next H H6 F6
        refine wl_nil (x_blk (x_then ?_))
        refine ⟨(code.drop p').length, by rw [hdl, hdl']; omega, p', { Q with args := Q.args ++ List.replicate nk 0 }, _, List.range' Q.args.length nk ++ tl, 0, ks2, env, env', ns2, s, atl, rfl, ?_, .inl rfl, hE, hEl, hs, hat, hP3, LS6, hp', kp _ ⟨rfl, rfl, rfl, rfl, rfl, rfl, trivial⟩⟩
        have : (List.range' Q.args.length nk ++ tl).length + 0 = nk + tl.length := by simp
        rw [this]
        exact hL2
  · try simp only [decide_eq_true_eq, decide_eq_false_iff_not, Bool.not_eq_true', Bool.not_eq_false', Bool.not_eq_eq_eq_not, Bool.not_true, Bool.not_false, beq_iff_eq, bne_iff_ne, ne_eq, beq_eq_false_iff_ne, bne_eq_false_iff_eq, gt_iff_lt, ge_iff_le, Int.not_lt, Int.not_le] at hc17
    have hpe : p = code.length := by omega
    refine c_exit (x_thenX (x_thenX (x_blkX ?_)))
    refine bp_end Tryz.results56 rfl ?_
    subst hpe
    have h0 : ss.length + i = 0 := by
      rcases hx : ss.length + i with _ | k
      · rfl
      · rw [hx] at hL; obtain ⟨c, r, hr⟩ := hL.ne; simp at hr
    have hss : ss = [] := List.eq_nil_of_length_eq_zero (by omega)
    have hi0 : i = 0 := by omega
    subst hss hi0
    obtain ⟨rfl, _, _, rfl⟩ := hL.inv0
    obtain ⟨k1, k2, k3⟩ := layP_end hP
    exact ⟨P, ⟨LS1.heap, LS1.fr⟩, k1, k2, k3⟩

end Go.Proofs.Qxb6500569aGreat
