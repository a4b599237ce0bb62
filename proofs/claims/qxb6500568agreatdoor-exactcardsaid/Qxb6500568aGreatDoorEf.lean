import Derived.Test.Qxb6500568aGreatDoorEe
/- The real scanner: scan. -/
namespace Go.Proofs.Qxb6500568aGreatDoor
open Ieee
set_option linter.unusedVariables false
set_option linter.unusedSimpArgs false

section
variable {P : Program} {n : Nat} {e : Nat → Option Value} {w : World} {ds : List Deferred} {ops : Array Oper} {Q : Exit → Act → World → Prop} {rest : List Oper} {ty : TypeId} {ps : String} {af : Array Edge} {d : Nat}
theorem ro_runeA {src dst : TypeId} {x : Operand} {k : IntKind} {c : UInt8} (h : c.toNat < 128) (hx : evO n e x = some (.int k c.toNat)) (hs : scalB P src = true) (hd : strB P dst = true) : RO P n e w (.convert src dst x) (S [c]) := encL_asc h ▸ ro_runeS hx hs hd
theorem ro_min {x y : Operand} {k k' : IntKind} {a b : Int} {t t' : TypeId} (hx : evO n e x = some (.int k a)) (hy : evO n e y = some (.int k' b)) : RO P n e w (.call ⟨.builtin .min, #[x, y], #[t, t']⟩) (.int k (if b < a then b else a)) := by
  intro ds dst ty ps af g
  simp [execOp, resolve, evO_eval hx, evO_eval hy, invoke, builtin, Builtin.min_, Builtin.min2]
theorem wl_rangeS {t : TypeId} {x : Operand} {s : Str} (hx : evO n e x = some (S s)) (ht : strB P t = true) (k : ∀ ri w1, w.heap.size ≤ ri → SIt w1.heap ri s 0 → Fram none' w w1 → WL P ops Q rest (Fr n (upd e d (ptr ri)) ds) w1) :
    WL P ops Q (⟨some d, .range t x, ty, ps, af, none⟩ :: rest) (Fr n e ds) w :=
  wle (eo_rangeS hx ht) (k w.heap.size _ (Nat.le_refl _) (by unfold SIt; exact heap_alloc_new w _) (Fram.alloc none' w _))
theorem wl_nextS' {ri pos : Nat} {x : Operand} {s : Str} (hx : evO n e x = some (ptr ri)) (hI : SIt w.heap ri s pos)
    (k1 : s.length ≤ pos → WL P ops Q rest (Fr n (upd e d (.tuple #[.bool false])) ds) w)
    (k2 : ∀ w1 r z, Utf8.decode ⟨s.toArray⟩ pos = (r, z) → pos < s.length → SIt w1.heap ri s (pos + z) → Fram (one ri) w w1 → WL P ops Q rest (Fr n (upd e d (.tuple #[.bool true, i64c pos, .int .i32 r])) ds) w1) :
    WL P ops Q (⟨some d, .next x true, ty, ps, af, none⟩ :: rest) (Fr n e ds) w :=
  wl_nextS hx hI k1 (fun w1 h1 h2 h3 => k2 w1 _ _ rfl h1 h2 h3)
end
theorem Own.isBlk {H : Array Obj} {v : Value} {e k n : Nat} {xs : List Value} (h : Own H v e k n xs) {b : Nat} (hb : own1 v b) : ∃ l t, Blk H b l t := by
  rcases h.2 with ⟨h2, _⟩ | ⟨g, cap, l, h1, h2, h3⟩
  · rw [h2] at hb; cases hb
  · rw [h1] at hb; cases hb; exact ⟨_, _, h2⟩
theorem Own.blkT {H : Array Obj} {v : Value} {e k n : Nat} {xs : List Value} (h : Own H v e k n xs) {b : Nat} (hb : own1 v b) : ∃ l, Blk H b l e := by
  rcases h.2 with ⟨h2, _⟩ | ⟨g, cap, l, h1, h2, h3⟩
  · rw [h2] at hb; cases hb
  · rw [h1] at hb; cases hb; exact ⟨_, h2⟩
theorem Own.neT {H : Array Obj} {v : Value} {e k n : Nat} {xs : List Value} (h : Own H v e k n xs) {b t : Nat} {l : List Value} (hB : Blk H b l t) (ht : t ≠ e) : ¬ own1 v b := fun hb => by
  obtain ⟨l', hB'⟩ := h.blkT hb
  exact ht (Blk.uniq hB hB').2
theorem SIt.own_ne {H : Array Obj} {ri pos : Nat} {s : Str} {v : Value} {e k n : Nat} {xs : List Value} (h : SIt H ri s pos) (ho : Own H v e k n xs) : ¬ own1 v ri := fun hb => by
  obtain ⟨l, t, hB⟩ := ho.isBlk hb
  exact h.blk_ne hB rfl
theorem PRes.form {o : Option Nat} {v : Value} (h : PRes o v) : ∃ (x : Nat) (e : Int), v = .tuple #[u64c x, icv e] ∧ ((e = 0 ∧ o = some x) ∨ (e ≠ 0 ∧ x = 0 ∧ o = none)) := by
  rcases h with ⟨x, h1, h2⟩ | ⟨h1, e, h2, h3⟩
  · exact ⟨x, 0, h2, .inl ⟨rfl, h1⟩⟩
  · exact ⟨0, e, h3, .inr ⟨h2, rfl, h1⟩⟩
theorem tokAt_pl (c : UInt8) (r : Str) (p : Nat) : (tokAt c r p).1.pl = p := by
  unfold tokAt
  dsimp only
  split
  · dsimp only; split <;> rfl
  · split
    · dsimp only; split <;> rfl
    · split
      · dsimp only; split <;> rfl
      · dsimp only; split <;> rfl
theorem cm_yes {s : Str} {p : Nat} (h : s[p + 1]? = some 45) : (s.drop (p + 1)).take (min (p + 2) s.length - (p + 1)) = [45] := by
  have hl := (List.getElem?_eq_some_iff.1 h).1
  rw [show min (p + 2) s.length - (p + 1) = 1 by omega, drop_cons h]
  rfl
theorem cm_no {s : Str} {p : Nat} (h : s[p + 1]? ≠ some 45) : (s.drop (p + 1)).take (min (p + 2) s.length - (p + 1)) ≠ [45] := fun he => h (by
  have h2 := congrArg (fun l : Str => l[0]?) he
  simp only [List.getElem?_take, List.getElem?_drop, List.getElem?_cons_zero] at h2
  split at h2
  · simpa using h2
  · cases h2)
theorem twk_at {p : UInt8 → Bool} {s : Str} : ∀ (n i : Nat), s.length - i ≤ n → i ≤ s.length → twk p s i < s.length → ∃ c, s[twk p s i]? = some c ∧ p c = false
  | 0, i, h, hi, hl => by rw [twk_end (by omega)] at hl; omega
  | n + 1, i, h, hi, hl => by
    rcases Nat.lt_or_ge i s.length with q | q
    · obtain ⟨c, hc⟩ : ∃ c, s[i]? = some c := ⟨_, List.getElem?_eq_getElem q⟩
      cases hp : p c with
      | true => rw [← twk_step hc hp] at hl ⊢; exact twk_at n (i + 1) (by omega) (by omega) hl
      | false => rw [twk_stop hc hp]; exact ⟨c, hc, hp⟩
    · rw [twk_end q] at hl; omega
theorem twk_last {p : UInt8 → Bool} {s : Str} : ∀ (n i : Nat), s.length - i ≤ n → i < twk p s i → ∃ c, s[twk p s i - 1]? = some c ∧ p c = true
  | 0, i, h, hl => by rw [twk_end (by omega)] at hl; omega
  | n + 1, i, h, hl => by
    rcases Nat.lt_or_ge i s.length with q | q
    · obtain ⟨c, hc⟩ : ∃ c, s[i]? = some c := ⟨_, List.getElem?_eq_getElem q⟩
      cases hp : p c with
      | false => rw [twk_stop hc hp] at hl; omega
      | true =>
        rw [← twk_step hc hp] at hl ⊢
        have := (twk_le (p := p) (s := s) (i := i + 1) (by omega)).1
        rcases Nat.lt_or_ge (i + 1) (twk p s (i + 1)) with q2 | q2
        · exact twk_last n (i + 1) (by omega) q2
        · rw [show twk p s (i + 1) - 1 = i by omega]; exact ⟨c, hc, hp⟩
    · rw [twk_end q] at hl; omega
theorem Rch.last {s : Str} {pos en : Nat} {c : UInt8} (h : s[en - 1]? = some c) (hc : c.toNat < 128) (h0 : pos ≤ en) (h1 : 0 < en) : Rch s pos en := .inr ⟨h0, .inr (.inr ⟨c, h, hc, h1⟩)⟩
theorem isDig_lo {c : UInt8} (h : isDig c = true) : c.toNat < 128 := by have := (isDig_iff c).1 h; omega
theorem isLet_lo {c : UInt8} (h : isLet c = true) : c.toNat < 128 := by have := (isLet_iff c).1 h; omega
theorem isWrd_lo {c : UInt8} (h : isWrd c = true) : c.toNat < 128 := by
  rcases (isWrd_iff c).1 h with h | h
  · exact isLet_lo h
  · exact isDig_lo h
theorem twk_gt {p : UInt8 → Bool} {s : Str} {i : Nat} {c : UInt8} (h : s[i]? = some c) (hp : p c = true) : i < twk p s i ∧ twk p s i ≤ s.length := by
  have hl := (List.getElem?_eq_some_iff.1 h).1
  rw [← twk_step h hp]
  have := twk_le (p := p) (s := s) (i := i + 1) (by omega)
  omega
theorem dgA_some {s : Str} {j : Nat} (h : dgA s j = true) : ∃ c, s[j]? = some c ∧ isDig c = true := by
  unfold dgA at h
  cases hc : s[j]? with
  | none => rw [hc] at h; cases h
  | some c => rw [hc] at h; exact ⟨c, rfl, h⟩
/-- A number ends behind a digit. -/
theorem numE_last {s : Str} {i : Nat} {c : UInt8} (h : s[i]? = some c) (hd : isDig c = true) : i < numE s i ∧ numE s i ≤ s.length ∧ ∃ d, s[numE s i - 1]? = some d ∧ isDig d = true := by
  have h0 := twk_gt h hd
  have key : ∀ j d, i < j → s[j]? = some d → isDig d = true → i < twk isDig s j ∧ twk isDig s j ≤ s.length ∧ ∃ d, s[twk isDig s j - 1]? = some d ∧ isDig d = true := fun j d hj h1 h2 => by
    have := twk_gt h1 h2
    exact ⟨by omega, this.2, twk_last _ j (Nat.le_refl _) this.1⟩
  unfold numE
  cases hc : s[twk isDig s i]? with
  | none => exact ⟨h0.1, h0.2, twk_last _ i (Nat.le_refl _) h0.1⟩
  | some x =>
    dsimp only
    split
    · rename_i q
      obtain ⟨d, h1, h2⟩ := dgA_some q.2
      exact key _ d (by omega) h1 h2
    · split
      · rename_i q
        obtain ⟨d, h1, h2⟩ := dgA_some q.2.2
        exact key _ d (by omega) h1 h2
      · exact ⟨h0.1, h0.2, twk_last _ i (Nat.le_refl _) h0.1⟩
theorem twoC_no {c : UInt8} (h : (c.toNat : Int) ≠ 46 ∧ (c.toNat : Int) ≠ 47 ∧ (c.toNat : Int) ≠ 61 ∧ (c.toNat : Int) ≠ 126 ∧ (c.toNat : Int) ≠ 60 ∧ (c.toNat : Int) ≠ 62) (d : UInt8) : twoC c d = false := by
  obtain ⟨h1, h2, h3, h4, h5, h6⟩ := h
  have q : ∀ k : Nat, k < 256 → (c.toNat : Int) ≠ (k : Int) → (c == UInt8.ofNat k) = false := fun k hk hn => beq_eq_false_iff_ne.2 (fun e => hn ((u8_beq c k hk).1 e))
  unfold twoC
  rw [show (c == 61) = false from q 61 (by decide) h3, show (c == 126) = false from q 126 (by decide) h4, show (c == 60) = false from q 60 (by decide) h5, show (c == 62) = false from q 62 (by decide) h6, show (c == 46) = false from q 46 (by decide) h1, show (c == 47) = false from q 47 (by decide) h2]
  rfl
theorem twoC_no' {c : UInt8} (h : ∀ d, twoC c d = false) (s : Str) (p : Nat) : sgnW s p c = [c] := by
  unfold sgnW
  split
  · rw [if_neg (by rw [h]; decide)]
  · rfl
theorem twoC_eq {c : UInt8} (h : (c.toNat : Int) = 61 ∨ (c.toNat : Int) = 126 ∨ (c.toNat : Int) = 60 ∨ (c.toNat : Int) = 62) (d : UInt8) : twoC c d = decide (d = 61) := by
  have q : c = 61 ∨ c = 126 ∨ c = 60 ∨ c = 62 := by
    rcases h with h | h | h | h
    · exact .inl ((u8_beq c 61 (by decide)).2 h)
    · exact .inr (.inl ((u8_beq c 126 (by decide)).2 h))
    · exact .inr (.inr (.inl ((u8_beq c 60 (by decide)).2 h)))
    · exact .inr (.inr (.inr ((u8_beq c 62 (by decide)).2 h)))
  rcases q with rfl | rfl | rfl | rfl <;> simp [twoC] <;> rfl
theorem twoC_dbl {c : UInt8} (h : (c.toNat : Int) = 46 ∨ (c.toNat : Int) = 47) (d : UInt8) : twoC c d = decide (d = c) := by
  have q : c = 46 ∨ c = 47 := by
    rcases h with h | h
    · exact .inl ((u8_beq c 46 (by decide)).2 h)
    · exact .inr ((u8_beq c 47 (by decide)).2 h)
  rcases q with rfl | rfl <;> simp [twoC] <;> rfl
theorem hi_tok {s : Str} {p : Nat} {c : UInt8} (h : 128 ≤ c.toNat) : tokAt c (s.drop (p + 1)) p = (⟨1, p, [], 0, 13⟩, 1) := by
  have h1 : isLet c = false := Bool.eq_false_iff.2 (fun q => absurd (isLet_lo q) (by omega))
  have h2 : isDig c = false := Bool.eq_false_iff.2 (fun q => absurd (isDig_lo q) (by omega))
  rw [tok_sgn h1 h2 (fun e => by subst e; simp at h), twoC_no' (twoC_no (by omega)), sgn_hi h]
  rfl
/-- What the scanner has found at pos: the token A with the error e0, read up to en. -/
structure ScE (s : Str) (pos z : Nat) (A : Tok × Nat) (e0 : Int) (en : Nat) : Prop where
  tf : tkF s pos = if A.1.k = 1 then [A.1] else A.1 :: tkF s (pos + A.2)
  bad : A.1.k = 1 → e0 = A.1.e
  ok : A.1.k ≠ 1 → A.1.e = 0 ∧ en = pos + A.2 ∧ en ≤ s.length ∧ Rch s (pos + z) en
/-- The scanner's memory. -/
structure ScI (w : World) (ow : Nat → Nat) (sb b5 : Nat) (X : List Value) (acc : List Tok) (U : Value) (last : Tok) (w1 : World) : Prop where
  hF : Fram (tg ow (fun t => t = 60 ∨ t = 61)) w w1
  hX : Blk w1.heap sb X 79
  h5 : Blk w1.heap b5 (tkc last) 182
  hU : Own w1.heap U 182 5 acc.length (rws tkc acc)
  n5 : ¬ own1 U b5
  nt : ∀ b, own1 U b → b < w.heap.size → ow b = 61
def sgT (wd : Str) (p : Nat) : Tok := match posS wd sgL with | some i => ⟨24 + i, p, [], 0, 0⟩ | none => ⟨1, p, [], 0, 13⟩
theorem sgT_k (wd : Str) (p : Nat) : (sgT wd p).k = match posS wd sgL with | some i => 24 + i | none => 1 := by unfold sgT; split <;> rfl
theorem sgT_s (wd : Str) (p : Nat) : (sgT wd p).s = [] := by unfold sgT; split <;> rfl
theorem sgT_n (wd : Str) (p : Nat) : (sgT wd p).n = 0 := by unfold sgT; split <;> rfl
theorem sgT_e (wd : Str) (p : Nat) : ((sgT wd p).k = 1 → (sgT wd p).e = 13) ∧ ((sgT wd p).k ≠ 1 → (sgT wd p).e = 0) := by
  unfold sgT
  split
  · exact ⟨fun h => by simp only at h; omega, fun _ => rfl⟩
  · exact ⟨fun _ => rfl, fun h => absurd rfl h⟩
structure SgE (s : Str) (pos z : Nat) (A : Tok × Nat) (wd : Str) (en : Nat) : Prop where
  tf : tkF s pos = if A.1.k = 1 then [A.1] else A.1 :: tkF s (pos + A.2)
  tk : A.1 = sgT wd pos
  ok : A.1.k ≠ 1 → en = pos + A.2 ∧ en ≤ s.length ∧ Rch s (pos + z) en
set_option maxHeartbeats 8000000 in
theorem scan75 {w : World} {ow : Nat → Nat} {sb n0 : Nat} {np V N : Value} {xs0 : List Value} {s : Str} (hX : Blk w.heap sb [np, V, N] 79) (hsb : ow sb = 60) (hV : OwT w ow 61 V 182 5 n0 xs0) (hG : GV w ow) (hs : s.length ≤ 2048) :
    Ret Tryz.prog 75 [ptr sb, S s] w (fun r w' => r = .tuple #[] ∧ ∃ V' ow', Xt w ow ow' ∧ Blk w'.heap sb [np, V', N] 79 ∧ OwT w' ow' 61 V' 182 5 (toks s).length (rws tkc (toks s)) ∧ Fram (tg ow (fun t => t = 60 ∨ t = 61)) w w') := by
  have hF : Fram (tg ow (fun t => t = 60 ∨ t = 61)) w w := Fram.refl _ _
  obtain ⟨va, vc, rfl⟩ := hV.form
  have hsbl := hX.lt
  have hmsb : tg ow (fun t => t = 60 ∨ t = 61) sb := .inl hsb
  have hV0 := hV.take (Nat.zero_le n0)
  rw [Nat.zero_mul, List.take_zero] at hV0
  have hF0 : Fram none' w w := Fram.refl _ _
  have hGf : ∀ {u : World}, Fram (tg ow (fun t => t = 60 ∨ t = 61)) w u → GV u ow := fun f => hG.far f (fun b hb _ q => by have q : ow b = 60 ∨ ow b = 61 := q; omega) (Xt.refl _ _)
  refine ret_of Tryz.func75 rfl Tryz.ntmps75 rfl ?_
  -- scope@r0 label 0: live slots [0, 1, 4, 5, 6, 39, 40, 43, 44, 47, 48, 54, 55, 56, 57, 58, 59, 60, 61, 62, 63, 72, 73, 82, 83, 89, 90, 93, 94, 97, 98, 151, 152, 153, 154, 155, 158, 159, 160, 161, 162, 179, 180, 181, 182, 183]
  refine c_scope (fun _ _ _ _ => False) ?_ ?_
  · skip
    refine c_seq (fun K1 hK1 => ?_)
    refine c_reg ?_ -- region 0 lex.go:61
    refine wl (ro_move rfl) ?_
    refine wl (ro_nilCheck rfl) ?_
    refine wl (ro_fieldAddr (k := 1) rfl fo_79_1) ?_
    refine wl (ro_loadB rfl sc_76 (by assumption) rfl) ?_
    refine wl (ro_sliceH (h := 0) rfl rfl se_76 rfl (by omega)) ?_
    refine wl (ro_assign rfl) ?_
    refine wl_nil (x_then (hK1 _ _ ?_))
    clear hK1 K1
    refine forget [(0, _), (1, _), (4, _)] ⟨rfl, rfl, rfl, trivial⟩ (fun e => ?_)
    refine c_seq (fun K2 hK2 => ?_)
    refine c_reg ?_ -- region 1 lex.go:62
    refine wl (ro_move rfl) ?_
    refine wl (ro_lenS rfl st_9) ?_
    refine wl (ro_build rfl bld_182_0_1) ?_
    refine wl_new (ze_182) (fun b5 w1 hbb5 h5 F1 => ?_)
    have hbsb5 := Nat.le_trans hF.size hbb5
    have hnesbb5 : sb < b5 := Nat.lt_of_lt_of_le hX.lt hbb5
    have hbsb5 := Nat.le_trans hF0.size hbb5
    replace hF := hF.thenDrew.thenN F1
    replace hX := F1.blkN hX
    replace hF0 := hF0.thenDrew.thenN F1
    refine wl_puta rfl rfl ((by (try exact vlc_cells _); all_goals simp [Value.oneCell', i64c, icv, u64c, u8c, ptr, S])) sz_182 (rfl) h5 ((by simp)) (rfl) (fun w2 h5 F2 => ?_)
    replace hF := hF.thenDrew.thenO F2 (by first | exact .inr (by omega) | exact .inl rfl | exact .inl (by assumption) | assumption)
    replace hX := F2.blkO hX (by omega)
    replace hF0 := hF0.thenDrew.thenO F2 (by first | exact .inr (by omega) | exact .inl rfl | exact .inl (by assumption) | assumption)
    refine wl_nil (x_then (hK2 _ _ ?_))
    clear hK2 K2
    refine forget [(0, _), (1, _), (4, _), (5, _)] ⟨rfl, rfl, rfl, rfl, trivial⟩ (fun e => ?_)
    refine c_seq (fun K3 hK3 => ?_)
    refine c_reg ?_ -- region 2 lex.go:63
    refine wl (ro_assign rfl) ?_
    refine wl_nil (x_then (hK3 _ _ ?_))
    clear hK3 K3
    refine forget [(0, _), (1, _), (4, _), (5, _), (6, _)] ⟨rfl, rfl, rfl, rfl, rfl, trivial⟩ (fun e => ?_)
    refine c_seq (fun K4 hK4 => ?_)
    refine c_label (x_then (hK4 _ _ ?_))
    clear hK4 K4
    refine c_mid (fun a' w' => ∃ acc last U, toks s = acc ++ [last] ∧ acc.length ≤ s.length ∧ ScI w ow sb b5 [np, .slice va n0 vc, N] acc U last w' ∧ ∃ e, a' = Fr 211 (upds e [(0, ptr sb), (4, U), (5, ptr b5)]) []) ?_ ?_
    · skip
      refine c_seq (fun K5 hK5 => ?_)
      refine c_reg ?_ -- region 3 lex.go:65
      refine wl (ro_move rfl) ?_
      refine wl_rangeS rfl st_9 (fun ri u1 hri hI F9 => ?_)
      have hneri : b5 < ri := Nat.lt_of_lt_of_le h5.lt hri
      have hneri2 : sb < ri := Nat.lt_of_lt_of_le hX.lt hri
      have hwri : w.heap.size ≤ ri := Nat.le_trans hF.size hri
      replace hF := hF.transG F9 (by intro k hk h; simp only [one, none'] at h ⊢ <;> omega)
      replace hX := F9.blkF hX (by intro h; simp only [one, none'] at h <;> omega)
      replace hF0 := hF0.transG F9 (by intro k hk h; simp only [one, none'] at h ⊢ <;> omega)
      replace h5 := F9.blkF h5 (by intro h; simp only [one, none'] at h <;> omega)
      refine wl_nil (x_then (hK5 _ _ ?_))
      clear hK5 K5
      refine c_block ?_
      -- loop@r4: live slots [0, 1, 4, 5, 6, 21]
      refine c_loopG (fun n a' w' => ∃ pos en acc U, n = s.length - pos ∧ Rch s pos en ∧ en ≤ s.length ∧ toks s = acc ++ tkF s en ∧ acc.length ≤ en ∧ SIt w'.heap ri s pos ∧ ScI w ow sb b5 [np, .slice va n0 vc, N] acc U ⟨0, s.length, [], 0, 0⟩ w' ∧ ∃ e, a' = Fr 211 (upds e [(0, ptr sb), (1, S s), (4, U), (5, ptr b5), (6, i64c en), (21, ptr ri)]) []) s.length ⟨0, 0, [], .slice va 0 vc, rfl, .inr ⟨Nat.le_refl _, .inl rfl⟩, Nat.zero_le _, by rw [List.nil_append, tkF_zero], Nat.le_refl _, hI, ⟨hF, hX, h5, hV0.o.fram hF0 (fun _ _ h => h), fun hb => by have := hV0.o.lt hb; omega, fun b hb _ => hV0.t b hb⟩, kp _ ⟨rfl, rfl, rfl, rfl, rfl, rfl, trivial⟩⟩ ?_
      clear hI hX h5 hF hF0
      rintro n a' u1 ⟨pos, en, acc, U, rfl, hR, hen, htk, hal, hI, ⟨hF, hX, h5, hU, n5, nt⟩, e, rfl⟩
      refine c_seq (fun K6 hK6 => ?_)
      refine c_reg ?_ -- region 4 lex.go:65
      refine wl_nextS' rfl hI (fun hend => ?_) (fun u2 r z hdq hlt hIt2 G2 => ?_)
      · skip
        skip
        refine wl (ro_extract rfl rfl) ?_
        refine wl_nil (x_then (hK6 _ _ ?_))
        clear hK6 K6
        refine forget [(0, _), (1, _), (4, _), (5, _), (6, _), (21, _), (22, _), (23, _)] ⟨rfl, rfl, rfl, rfl, rfl, rfl, rfl, rfl, trivial⟩ (fun e => ?_)
        refine c_seq (fun K7 hK7 => ?_)
        refine wc_condF rfl ?_
        refine c_exit (x_thenX (x_thenX (x_blkX (x_then ?_))))
        have hel : en = s.length := by
          rcases hR with q | ⟨q, _⟩
          · omega
          · omega
        exact ⟨acc, _, U, by rw [htk, tkF_end (by omega), hel], by omega, ⟨hF, hX, h5, hU, n5, nt⟩, kp _ ⟨rfl, rfl, rfl, trivial⟩⟩
      · skip
        have hU2 := hU.fram G2 (fun b hb he => by cases he; exact hI.own_ne hU hb)
        replace hF := hF.transG G2 (by intro k hk h; simp only [one, none'] at h ⊢ <;> omega)
        replace hX := G2.blkF hX (by intro h; simp only [one, none'] at h <;> omega)
        replace h5 := G2.blkF h5 (by intro h; simp only [one, none'] at h <;> omega)
        clear hU hI
        have hX2 := hX
        have h52 := h5
        have hF2 := hF
        have hL : Fram none' u2 u2 := Fram.refl _ _
        obtain ⟨c, hc0⟩ : ∃ c, s[pos]? = some c := ⟨_, List.getElem?_eq_getElem hlt⟩
        have hz : 1 ≤ z := by
          rcases Nat.lt_or_ge c.toNat 128 with q | q
          · have := dec_asc hc0 q; rw [hdq] at this; cases this; exact Nat.le_refl _
          · have := (dec_hi hc0 q).2.2.1; rw [hdq] at this; exact this
        refine wl (ro_extract rfl rfl) ?_
        refine wl_nil (x_then (hK6 _ _ ?_))
        clear hK6 K6
        refine forget [(0, _), (1, _), (4, _), (5, _), (6, _), (21, _), (22, _), (23, _)] ⟨rfl, rfl, rfl, rfl, rfl, rfl, rfl, rfl, trivial⟩ (fun e => ?_)
        refine c_seq (fun K8 hK8 => ?_)
        refine wc_condT rfl ?_
        refine c_skip (x_then (hK8 _ _ ?_))
        clear hK8 K8
        refine c_block ?_
        refine forget [(0, _), (1, _), (4, _), (5, _), (6, _), (21, _), (22, _)] ⟨rfl, rfl, rfl, rfl, rfl, rfl, rfl, trivial⟩ (fun e => ?_)
        refine c_seq (fun K9 hK9 => ?_)
        refine c_reg ?_ -- region 5 lex.go:65
        refine wl (ro_extract rfl rfl) ?_
        refine wl (ro_extract rfl rfl) ?_
        refine wl (ro_assign rfl) ?_
        refine wl (ro_assign rfl) ?_
        refine wl_nil (x_then (hK9 _ _ ?_))
        clear hK9 K9
        refine c_seq (fun K10 hK10 => ?_)
        refine c_seq (fun K11 hK11 => ?_)
        refine c_reg ?_ -- region 6 lex.go:66
        refine wl (ro_move rfl) ?_
        refine wl (ro_move rfl) ?_
        refine wl (ro_cmp rfl rfl rfl) ?_
        refine wl_nil (x_then (hK11 _ _ ?_))
        clear hK11 K11
        refine wc_cond rfl (fun hc28 => ?_) (fun hc28 => ?_)
        · try simp only [decide_eq_true_eq, decide_eq_false_iff_not, Bool.not_eq_true', Bool.not_eq_false', Bool.not_eq_eq_eq_not, Bool.not_true, Bool.not_false, beq_iff_eq, bne_iff_ne, ne_eq, beq_eq_false_iff_ne, bne_eq_false_iff_eq, gt_iff_lt, ge_iff_le, Int.not_lt, Int.not_le] at hc28
          refine c_exit (x_thenX (x_blkX (x_then ?_)))
          refine ⟨s.length - (pos + z), by omega, pos + z, en, acc, U, rfl, ?_, hen, htk, hal, hIt2, ⟨hF, hX, h5, hU2, n5, nt⟩, kp _ ⟨rfl, rfl, rfl, rfl, rfl, rfl, trivial⟩⟩
          have := hR.step hlt (by omega)
          rw [hdq] at this
          exact this
        · try simp only [decide_eq_true_eq, decide_eq_false_iff_not, Bool.not_eq_true', Bool.not_eq_false', Bool.not_eq_eq_eq_not, Bool.not_true, Bool.not_false, beq_iff_eq, bne_iff_ne, ne_eq, beq_eq_false_iff_ne, bne_eq_false_iff_eq, gt_iff_lt, ge_iff_le, Int.not_lt, Int.not_le] at hc28
          have hpe : en = pos := by
            rcases hR with q | ⟨q, _⟩
            · omega
            · omega
          subst hpe
          have hcls : (c.toNat < 128 ∧ r = c.toNat ∧ z = 1 ∧ c.toNat ≠ 45) ∨ (c.toNat = 45 ∧ r = c.toNat ∧ z = 1 ∧ s[en + 1]? = some 45) ∨ (c.toNat = 45 ∧ r = c.toNat ∧ z = 1 ∧ s[en + 1]? ≠ some 45) ∨ (128 ≤ c.toNat ∧ 128 ≤ r ∧ r ≤ 1114111) := by
            rcases Nat.lt_or_ge c.toNat 128 with q | q
            · have := dec_asc hc0 q
              rw [hdq] at this
              obtain ⟨rfl, rfl⟩ := Prod.mk.inj this
              by_cases q5 : c.toNat = 45
              · by_cases q6 : s[en + 1]? = some 45
                · exact .inr (.inl ⟨q5, rfl, rfl, q6⟩)
                · exact .inr (.inr (.inl ⟨q5, rfl, rfl, q6⟩))
              · exact .inl ⟨q, rfl, rfl, q5⟩
            · have := dec_hi hc0 q
              rw [hdq] at this
              exact .inr (.inr (.inr ⟨q, this.1, this.2.1⟩))
          refine c_skip (x_then (hK10 _ _ ?_))
          clear hK10 K10
          refine forget [(0, _), (1, _), (4, _), (5, _), (7, _), (8, _), (21, _)] ⟨rfl, rfl, rfl, rfl, rfl, rfl, rfl, trivial⟩ (fun e => ?_)
          refine c_seq (fun K12 hK12 => ?_)
          rcases hcls with ⟨hlo, rfl, hz1, h45⟩ | ⟨hcn, rfl, hz1, h45⟩ | ⟨hcn, rfl, hz1, h45⟩ | ⟨hhi, hr1, hr2⟩
          · skip
            have hcm : ¬ (c = 45 ∧ s[en + 1]? = some 45) := fun q => h45 (by rw [q.1]; rfl)
            refine c_reg ?_ -- region 7 lex.go:69
            refine wl (ro_move rfl) ?_
            refine wl (ro_arith rfl rfl rfl (Go.IntWalk.i64_in _ (by omega))) ?_
            refine wl (ro_assign rfl) ?_
            refine wl_nil (x_then (hK12 _ _ ?_))
            clear hK12 K12
            refine forget [(0, _), (1, _), (4, _), (5, _), (6, _), (7, _), (8, _), (21, _)] ⟨rfl, rfl, rfl, rfl, rfl, rfl, rfl, rfl, trivial⟩ (fun e => ?_)
            refine c_seq (fun K13 hK13 => ?_)
            refine c_reg ?_ -- region 8 lex.go:70
            refine wl (ro_move rfl) ?_
            refine wl (ro_build rfl bld_182_0_1_4) ?_
            refine wl_new (ze_182) (fun b9 w3 hbb9 h9 F3 => ?_)
            have hbsb9 := Nat.le_trans hF.size hbb9
            have hnesbb9 : sb < b9 := Nat.lt_of_lt_of_le hX.lt hbb9
            have hneb5b9 : b5 < b9 := Nat.lt_of_lt_of_le h5.lt hbb9
            have hbsb9 := Nat.le_trans hL.size hbb9
            replace hF := hF.thenDrew.thenN F3
            replace hX := F3.blkN hX
            replace h5 := F3.blkN h5
            replace hL := hL.thenDrew.thenN F3
            refine wl_puta rfl rfl ((by (try exact vlc_cells _); all_goals simp [Value.oneCell', i64c, icv, u64c, u8c, ptr, S])) sz_182 (rfl) h9 ((by simp)) (rfl) (fun w4 h9 F4 => ?_)
            replace hF := hF.thenDrew.thenO F4 (by first | exact .inr (by omega) | exact .inl rfl | exact .inl (by assumption) | assumption)
            replace hX := F4.blkO hX (by omega)
            replace h5 := F4.blkO h5 (by omega)
            replace hL := hL.thenDrew.thenO F4 (by first | exact .inr (by omega) | exact .inl rfl | exact .inl (by assumption) | assumption)
            refine wl_nil (x_then (hK13 _ _ ?_))
            clear hK13 K13
            refine forget [(0, _), (1, _), (4, _), (5, _), (6, _), (7, _), (8, _), (9, _), (21, _)] ⟨rfl, rfl, rfl, rfl, rfl, rfl, rfl, rfl, rfl, trivial⟩ (fun e => ?_)
            refine c_seq (fun K14 hK14 => ?_)
            refine c_reg ?_ -- region 9 lex.go:71
            refine wl (ro_move rfl) ?_
            refine wl (ro_runeA hlo rfl sc_21 st_9) ?_
            refine wl (ro_assign rfl) ?_
            refine wl_nil (x_then (hK14 _ _ ?_))
            clear hK14 K14
            refine forget [(0, _), (1, _), (4, _), (5, _), (6, _), (7, _), (8, _), (9, _), (10, _), (21, _)] ⟨rfl, rfl, rfl, rfl, rfl, rfl, rfl, rfl, rfl, rfl, trivial⟩ (fun e => ?_)
            refine c_seq (fun K15 hK15 => ?_)
            refine c_reg ?_ -- region 10 lex.go:72
            refine wl (ro_assign rfl) ?_
            refine wl_nil (x_then (hK15 _ _ ?_))
            clear hK15 K15
            refine forget [(0, _), (1, _), (4, _), (5, _), (6, _), (7, _), (8, _), (9, _), (10, _), (11, _), (21, _)] ⟨rfl, rfl, rfl, rfl, rfl, rfl, rfl, rfl, rfl, rfl, rfl, trivial⟩ (fun e => ?_)
            refine c_mid (fun a' w' => ∃ (e0 : Int) (en' : Nat), ScE s en z (tokAt c (s.drop (en + 1)) en) e0 en' ∧ Fram none' u2 w' ∧ Blk w'.heap b9 [i64c (tokAt c (s.drop (en + 1)) en).1.k, i64c en, S (tokAt c (s.drop (en + 1)) en).1.s, u64c (tokAt c (s.drop (en + 1)) en).1.n, icv e0] 182 ∧ ∃ e, a' = Fr 211 (upds e [(0, ptr sb), (1, S s), (4, U), (5, ptr b5), (6, i64c en'), (9, ptr b9), (21, ptr ri)]) []) ?_ ?_
            · skip
              refine c_block ?_
              refine c_mid (fun a' w' => ∃ (wd : Str) (en' : Nat), SgE s en z (tokAt c (s.drop (en + 1)) en) wd en' ∧ Fram none' u2 w' ∧ Blk w'.heap b9 [i64c 1, i64c en, S [], u64c 0, icv 14] 182 ∧ ∃ e, a' = Fr 211 (upds e [(0, ptr sb), (1, S s), (4, U), (5, ptr b5), (6, i64c en'), (9, ptr b9), (10, S wd), (21, ptr ri)]) []) ?_ ?_
              · skip
                refine c_block ?_
                refine c_mid (fun a' w' => ∃ (tw : UInt8), c.toNat < 128 ∧ tw.toNat < 128 ∧ z = 1 ∧ tkF s en = (if (tokAt c (s.drop (en + 1)) en).1.k = 1 then [(tokAt c (s.drop (en + 1)) en).1] else (tokAt c (s.drop (en + 1)) en).1 :: tkF s (en + (tokAt c (s.drop (en + 1)) en).2)) ∧ (∀ d, twoC c d = decide (d = tw)) ∧ tokAt c (s.drop (en + 1)) en = (sgT (sgnW s en c) en, (sgnW s en c).length) ∧ Fram none' u2 w' ∧ Blk w'.heap b9 [i64c 1, i64c en, S [], u64c 0, icv 14] 182 ∧ ∃ e, a' = Fr 211 (upds e [(0, ptr sb), (1, S s), (4, U), (5, ptr b5), (6, i64c (en + 1)), (7, i64c en), (9, ptr b9), (10, S [c]), (11, u8c tw), (21, ptr ri)]) []) ?_ ?_
                · skip
                  refine c_block ?_
                  refine c_seq (fun K16 hK16 => ?_)
                  refine c_block ?_
                  refine c_seq (fun K17 hK17 => ?_)
                  refine c_block ?_
                  refine c_seq (fun K18 hK18 => ?_)
                  refine c_block ?_
                  refine c_seq (fun K19 hK19 => ?_)
                  refine c_block ?_
                  refine c_seq (fun K20 hK20 => ?_)
                  refine c_block ?_
                  refine c_seq (fun K21 hK21 => ?_)
                  refine c_block ?_
                  refine c_seq (fun K22 hK22 => ?_)
                  refine c_seq (fun K23 hK23 => ?_)
                  refine c_seq (fun K24 hK24 => ?_)
                  refine c_reg ?_ -- region 11 lex.go:74
                  refine wl (ro_move rfl) ?_
                  refine wl (ro_cmp rfl rfl rfl) ?_
                  refine wl_fork rfl (fun hg38 => ?_) (fun hg38 => ?_)
                  · try simp only [decide_eq_true_eq, decide_eq_false_iff_not, Bool.not_eq_true', Bool.not_eq_false', Bool.not_eq_eq_eq_not, Bool.not_true, Bool.not_false, beq_iff_eq, bne_iff_ne, ne_eq, beq_eq_false_iff_ne, bne_eq_false_iff_eq, gt_iff_lt, ge_iff_le, Int.not_lt, Int.not_le] at hg38
                    refine wlg_no rfl ?_
                    refine wlg_no rfl ?_
                    refine wl (ro_pick rfl rfl rfl) ?_
                    refine wl (ro_move rfl) ?_
                    refine wlg_no rfl ?_
                    refine wlg_no rfl ?_
                    refine wl (ro_pick rfl rfl rfl) ?_
                    refine wl (ro_move rfl) ?_
                    refine wlg_no rfl ?_
                    refine wlg_no rfl ?_
                    refine wl (ro_pick rfl rfl rfl) ?_
                    refine wl (ro_assign rfl) ?_
                    refine wl_nil (x_then (hK24 _ _ ?_))
                    clear hK24 K24
                    refine wc_condT rfl ?_
                    refine c_exit (x_thenX (x_thenX (x_blkX (x_then (hK21 _ _ ?_)))))
                    clear hK23 K23 hK22 K22 hK21 K21
                    refine forget [(0, _), (1, _), (4, _), (5, _), (6, _), (21, _)] ⟨rfl, rfl, rfl, rfl, rfl, rfl, trivial⟩ (fun e => ?_)
                    refine c_seq (fun K25 hK25 => ?_)
                    refine c_exit (x_thenX (x_blkY rfl (x_thenX (x_blkY rfl (x_thenX (x_blkY rfl (x_thenX (x_blkY rfl (x_thenX (x_blkY rfl (x_thenX (x_blkY rfl (x_thenX (x_blkY rfl (x_thenX (x_blkY rfl (x_thenX (x_blkX (x_then ?_)))))))))))))))))))
                    refine ⟨s.length - (en + z), by omega, en + z, en + 1, acc, U, rfl, .inr ⟨by omega, .inl (by omega)⟩, by omega, by rw [htk, tkF_sp hc0 ((isSp_iff c).2 (by omega))], by omega, hIt2.fram hL (fun h => h), ⟨hF, hX, h5, hU2.fram hL (fun _ _ h => h), n5, nt⟩, kp _ ⟨rfl, rfl, rfl, rfl, rfl, rfl, trivial⟩⟩
                  · try simp only [decide_eq_true_eq, decide_eq_false_iff_not, Bool.not_eq_true', Bool.not_eq_false', Bool.not_eq_eq_eq_not, Bool.not_true, Bool.not_false, beq_iff_eq, bne_iff_ne, ne_eq, beq_eq_false_iff_ne, bne_eq_false_iff_eq, gt_iff_lt, ge_iff_le, Int.not_lt, Int.not_le] at hg38
                    refine wlg_yes rfl (ro_move rfl) ?_
                    refine wlg_yes rfl (ro_cmp rfl rfl rfl) ?_
                    refine wl (ro_pick rfl rfl rfl) ?_
                    refine wl_fork rfl (fun hg42 => ?_) (fun hg42 => ?_)
                    · try simp only [decide_eq_true_eq, decide_eq_false_iff_not, Bool.not_eq_true', Bool.not_eq_false', Bool.not_eq_eq_eq_not, Bool.not_true, Bool.not_false, beq_iff_eq, bne_iff_ne, ne_eq, beq_eq_false_iff_ne, bne_eq_false_iff_eq, gt_iff_lt, ge_iff_le, Int.not_lt, Int.not_le] at hg42
                      refine wlg_no rfl ?_
                      refine wlg_no rfl ?_
                      refine wl (ro_pick rfl rfl rfl) ?_
                      refine wl (ro_move rfl) ?_
                      refine wlg_no rfl ?_
                      refine wlg_no rfl ?_
                      refine wl (ro_pick rfl rfl rfl) ?_
                      refine wl (ro_assign rfl) ?_
                      refine wl_nil (x_then (hK24 _ _ ?_))
                      clear hK24 K24
                      refine wc_condT rfl ?_
                      refine c_exit (x_thenX (x_thenX (x_blkX (x_then (hK21 _ _ ?_)))))
                      clear hK23 K23 hK22 K22 hK21 K21
                      refine forget [(0, _), (1, _), (4, _), (5, _), (6, _), (21, _), (39, _), (40, _)] ⟨rfl, rfl, rfl, rfl, rfl, rfl, rfl, rfl, trivial⟩ (fun e => ?_)
                      refine c_seq (fun K26 hK26 => ?_)
                      refine c_exit (x_thenX (x_blkY rfl (x_thenX (x_blkY rfl (x_thenX (x_blkY rfl (x_thenX (x_blkY rfl (x_thenX (x_blkY rfl (x_thenX (x_blkY rfl (x_thenX (x_blkY rfl (x_thenX (x_blkY rfl (x_thenX (x_blkX (x_then ?_)))))))))))))))))))
                      refine ⟨s.length - (en + z), by omega, en + z, en + 1, acc, U, rfl, .inr ⟨by omega, .inl (by omega)⟩, by omega, by rw [htk, tkF_sp hc0 ((isSp_iff c).2 (by omega))], by omega, hIt2.fram hL (fun h => h), ⟨hF, hX, h5, hU2.fram hL (fun _ _ h => h), n5, nt⟩, kp _ ⟨rfl, rfl, rfl, rfl, rfl, rfl, trivial⟩⟩
                    · try simp only [decide_eq_true_eq, decide_eq_false_iff_not, Bool.not_eq_true', Bool.not_eq_false', Bool.not_eq_eq_eq_not, Bool.not_true, Bool.not_false, beq_iff_eq, bne_iff_ne, ne_eq, beq_eq_false_iff_ne, bne_eq_false_iff_eq, gt_iff_lt, ge_iff_le, Int.not_lt, Int.not_le] at hg42
                      refine wlg_yes rfl (ro_move rfl) ?_
                      refine wlg_yes rfl (ro_cmp rfl rfl rfl) ?_
                      refine wl (ro_pick rfl rfl rfl) ?_
                      refine wl_fork rfl (fun hg46 => ?_) (fun hg46 => ?_)
                      · try simp only [decide_eq_true_eq, decide_eq_false_iff_not, Bool.not_eq_true', Bool.not_eq_false', Bool.not_eq_eq_eq_not, Bool.not_true, Bool.not_false, beq_iff_eq, bne_iff_ne, ne_eq, beq_eq_false_iff_ne, bne_eq_false_iff_eq, gt_iff_lt, ge_iff_le, Int.not_lt, Int.not_le] at hg46
                        refine wlg_no rfl ?_
                        refine wlg_no rfl ?_
                        refine wl (ro_pick rfl rfl rfl) ?_
                        refine wl (ro_assign rfl) ?_
                        refine wl_nil (x_then (hK24 _ _ ?_))
                        clear hK24 K24
                        refine wc_condT rfl ?_
                        refine c_exit (x_thenX (x_thenX (x_blkX (x_then (hK21 _ _ ?_)))))
                        clear hK23 K23 hK22 K22 hK21 K21
                        refine forget [(0, _), (1, _), (4, _), (5, _), (6, _), (21, _), (39, _), (40, _), (43, _), (44, _)] ⟨rfl, rfl, rfl, rfl, rfl, rfl, rfl, rfl, rfl, rfl, trivial⟩ (fun e => ?_)
                        refine c_seq (fun K27 hK27 => ?_)
                        refine c_exit (x_thenX (x_blkY rfl (x_thenX (x_blkY rfl (x_thenX (x_blkY rfl (x_thenX (x_blkY rfl (x_thenX (x_blkY rfl (x_thenX (x_blkY rfl (x_thenX (x_blkY rfl (x_thenX (x_blkY rfl (x_thenX (x_blkX (x_then ?_)))))))))))))))))))
                        refine ⟨s.length - (en + z), by omega, en + z, en + 1, acc, U, rfl, .inr ⟨by omega, .inl (by omega)⟩, by omega, by rw [htk, tkF_sp hc0 ((isSp_iff c).2 (by omega))], by omega, hIt2.fram hL (fun h => h), ⟨hF, hX, h5, hU2.fram hL (fun _ _ h => h), n5, nt⟩, kp _ ⟨rfl, rfl, rfl, rfl, rfl, rfl, trivial⟩⟩
                      · try simp only [decide_eq_true_eq, decide_eq_false_iff_not, Bool.not_eq_true', Bool.not_eq_false', Bool.not_eq_eq_eq_not, Bool.not_true, Bool.not_false, beq_iff_eq, bne_iff_ne, ne_eq, beq_eq_false_iff_ne, bne_eq_false_iff_eq, gt_iff_lt, ge_iff_le, Int.not_lt, Int.not_le] at hg46
                        refine wlg_yes rfl (ro_move rfl) ?_
                        refine wlg_yes rfl (ro_cmp rfl rfl rfl) ?_
                        refine wl (ro_pick rfl rfl rfl) ?_
                        refine wl (ro_assign rfl) ?_
                        refine wl_nil (x_then (hK24 _ _ ?_))
                        clear hK24 K24
                        refine wc_cond rfl (fun hc35 => ?_) (fun hc35 => ?_)
                        · try simp only [decide_eq_true_eq, decide_eq_false_iff_not, Bool.not_eq_true', Bool.not_eq_false', Bool.not_eq_eq_eq_not, Bool.not_true, Bool.not_false, beq_iff_eq, bne_iff_ne, ne_eq, beq_eq_false_iff_ne, bne_eq_false_iff_eq, gt_iff_lt, ge_iff_le, Int.not_lt, Int.not_le] at hc35
                          refine c_exit (x_thenX (x_thenX (x_blkX (x_then (hK21 _ _ ?_)))))
                          clear hK23 K23 hK22 K22 hK21 K21
                          refine forget [(0, _), (1, _), (4, _), (5, _), (6, _), (21, _), (39, _), (40, _), (43, _), (44, _), (47, _), (48, _)] ⟨rfl, rfl, rfl, rfl, rfl, rfl, rfl, rfl, rfl, rfl, rfl, rfl, trivial⟩ (fun e => ?_)
                          refine c_seq (fun K28 hK28 => ?_)
                          refine c_exit (x_thenX (x_blkY rfl (x_thenX (x_blkY rfl (x_thenX (x_blkY rfl (x_thenX (x_blkY rfl (x_thenX (x_blkY rfl (x_thenX (x_blkY rfl (x_thenX (x_blkY rfl (x_thenX (x_blkY rfl (x_thenX (x_blkX (x_then ?_)))))))))))))))))))
                          refine ⟨s.length - (en + z), by omega, en + z, en + 1, acc, U, rfl, .inr ⟨by omega, .inl (by omega)⟩, by omega, by rw [htk, tkF_sp hc0 ((isSp_iff c).2 (by omega))], by omega, hIt2.fram hL (fun h => h), ⟨hF, hX, h5, hU2.fram hL (fun _ _ h => h), n5, nt⟩, kp _ ⟨rfl, rfl, rfl, rfl, rfl, rfl, trivial⟩⟩
                        · try simp only [decide_eq_true_eq, decide_eq_false_iff_not, Bool.not_eq_true', Bool.not_eq_false', Bool.not_eq_eq_eq_not, Bool.not_true, Bool.not_false, beq_iff_eq, bne_iff_ne, ne_eq, beq_eq_false_iff_ne, bne_eq_false_iff_eq, gt_iff_lt, ge_iff_le, Int.not_lt, Int.not_le] at hc35
                          refine c_skip (x_then (hK23 _ _ ?_))
                          clear hK23 K23
                          refine c_seq (fun K29 hK29 => ?_)
                          refine c_seq (fun K30 hK30 => ?_)
                          refine c_reg ?_ -- region 12 lex.go:76
                          refine wl (ro_move rfl) ?_
                          refine wl (ro_cmp (r := false) rfl rfl (congrArg some (beq_eq_false_iff_ne.2 (by omega)))) ?_
                          refine wl (ro_move rfl) ?_
                          refine wlg_no rfl ?_
                          refine wlg_no rfl ?_
                          refine wlg_no rfl ?_
                          refine wlg_no rfl ?_
                          refine wlg_no rfl ?_
                          refine wlg_no rfl ?_
                          refine wlg_no rfl ?_
                          refine wlg_no rfl ?_
                          refine wlg_no rfl ?_
                          refine wlg_no rfl ?_
                          refine wl (ro_pick rfl rfl rfl) ?_
                          refine wl (ro_assign rfl) ?_
                          refine wl_nil (x_then (hK30 _ _ ?_))
                          clear hK30 K30
                          refine wc_condF rfl ?_
                          refine c_skip (x_then (hK29 _ _ ?_))
                          clear hK29 K29
                          refine c_seq (fun K31 hK31 => ?_)
                          refine c_seq (fun K32 hK32 => ?_)
                          have hsp : isSp c = false := Bool.eq_false_iff.2 (fun q => by have := (isSp_iff c).1 q; omega)
                          have hT0 := tkF_tok hc0 hsp hcm
                          refine c_reg ?_ -- region 13 lex.go:79
                          refine wl (ro_move rfl) ?_
                          refine wl_call rfl en_128 (letter128) ?_
                          rintro _ u0 ⟨rfl, hw0⟩
                          rw [hw0]
                          clear hw0 u0
                          refine wl (ro_assign rfl) ?_
                          refine wl_nil (x_then (hK32 _ _ ?_))
                          clear hK32 K32
                          refine wc_cond rfl (fun hc65 => ?_) (fun hc65 => ?_)
                          · try simp only [decide_eq_true_eq, decide_eq_false_iff_not, Bool.not_eq_true', Bool.not_eq_false', Bool.not_eq_eq_eq_not, Bool.not_true, Bool.not_false, beq_iff_eq, bne_iff_ne, ne_eq, beq_eq_false_iff_ne, bne_eq_false_iff_eq, gt_iff_lt, ge_iff_le, Int.not_lt, Int.not_le] at hc65
                            have hlet : isLet c = true := (isLet_iff c).2 (by omega)
                            have hw := twk_gt (p := isWrd) hc0 ((isWrd_iff c).2 (.inl hlet))
                            obtain ⟨cl, hcl, hclw⟩ := twk_last _ en (Nat.le_refl _) hw.1
                            refine c_exit (x_thenX (x_thenX (x_blkY rfl (x_thenX (x_blkY rfl (x_thenX (x_blkX (x_then (hK19 _ _ ?_)))))))))
                            clear hK31 K31 hK22 K22 hK21 K21 hK20 K20 hK19 K19
                            refine c_seq (fun K33 hK33 => ?_)
                            refine c_seq (fun K34 hK34 => ?_)
                            refine c_reg ?_ -- region 19 lex.go:80
                            refine wl (ro_move rfl) ?_
                            refine wl (ro_move rfl) ?_
                            refine wl_call rfl en_129 (words129 (by omega) (by omega)) ?_
                            rintro _ u0 ⟨rfl, hw0⟩
                            rw [hw0]
                            clear hw0 u0
                            refine wl (ro_assign rfl) ?_
                            refine wl_nil (x_then (hK34 _ _ ?_))
                            clear hK34 K34
                            refine forget [(0, _), (1, _), (4, _), (5, _), (6, _), (7, _), (9, _), (21, _), (39, _), (40, _), (43, _), (44, _), (47, _), (48, _)] ⟨rfl, rfl, rfl, rfl, rfl, rfl, rfl, rfl, rfl, rfl, rfl, rfl, rfl, rfl, trivial⟩ (fun e => ?_)
                            refine c_seq (fun K35 hK35 => ?_)
                            refine c_reg ?_ -- region 20 lex.go:81
                            refine wl (ro_move rfl) ?_
                            refine wl (ro_move rfl) ?_
                            refine wl (ro_arith rfl rfl rfl (Go.IntWalk.i64_in _ (by omega))) ?_
                            refine wl (ro_cmp rfl rfl rfl) ?_
                            refine wl_nil (x_then (hK35 _ _ ?_))
                            clear hK35 K35
                            refine wc_cond rfl (fun hc109 => ?_) (fun hc109 => ?_)
                            · try simp only [decide_eq_true_eq, decide_eq_false_iff_not, Bool.not_eq_true', Bool.not_eq_false', Bool.not_eq_eq_eq_not, Bool.not_true, Bool.not_false, beq_iff_eq, bne_iff_ne, ne_eq, beq_eq_false_iff_ne, bne_eq_false_iff_eq, gt_iff_lt, ge_iff_le, Int.not_lt, Int.not_le] at hc109
                              refine c_seq (fun K36 hK36 => ?_)
                              refine c_reg ?_ -- region 21 lex.go:82
                              refine wl (ro_move rfl) ?_
                              refine wl (ro_move rfl) ?_
                              refine wl (ro_move rfl) ?_
                              refine wl (ro_sliceSLH (l := en) (h := twk isWrd s en) rfl rfl rfl st_9 rfl rfl (by omega) (by omega)) ?_
                              refine wl (ro_fieldAddr (k := 2) rfl fo_182_2) ?_
                              refine wl_put rfl rfl rfl sz_9 h9 (by simp) (rfl) (fun w5 h9 F5 => ?_)
                              replace hF := hF.thenDrew.thenO F5 (by first | exact .inr (by omega) | exact .inl rfl | exact .inl (by assumption) | assumption)
                              replace hX := F5.blkO hX (by omega)
                              replace h5 := F5.blkO h5 (by omega)
                              replace hL := hL.thenDrew.thenO F5 (by first | exact .inr (by omega) | exact .inl rfl | exact .inl (by assumption) | assumption)
                              refine wl_nil (x_then (hK36 _ _ ?_))
                              clear hK36 K36
                              refine c_reg ?_ -- region 22 lex.go:83
                              refine wl (ro_fieldAddr (k := 2) rfl fo_182_2) ?_
                              refine wl (ro_loadB rfl sc_9 (by assumption) rfl) ?_
                              refine wl_call rfl en_130 (keyword130 (hGf hF)) ?_
                              rintro _ u0 ⟨rfl, hw0⟩
                              rw [hw0]
                              clear hw0 u0
                              refine wl (ro_fieldAddr (k := 0) rfl fo_182_0) ?_
                              refine wl_put rfl rfl rfl sz_180 h9 (by simp) (rfl) (fun w6 h9 F6 => ?_)
                              replace hF := hF.thenDrew.thenO F6 (by first | exact .inr (by omega) | exact .inl rfl | exact .inl (by assumption) | assumption)
                              replace hX := F6.blkO hX (by omega)
                              replace h5 := F6.blkO h5 (by omega)
                              replace hL := hL.thenDrew.thenO F6 (by first | exact .inr (by omega) | exact .inl rfl | exact .inl (by assumption) | assumption)
                              refine wl_nil (x_then (hK33 _ _ ?_))
                              clear hK33 K33
                              refine c_exit (x_blkY rfl (x_thenX (x_blkY rfl (x_thenX (x_blkY rfl (x_thenX (x_blkY rfl (x_thenX (x_blkY rfl (x_thenX (x_blkX (x_then ?_))))))))))))
                              have hA := tok_word hc0 hlet
                              rw [if_pos (by omega)] at hA
                              refine ⟨14, twk isWrd s en, ⟨hT0, fun hk => ?_, fun hk => ?_⟩, hL, ?_, kp _ ⟨rfl, rfl, rfl, rfl, rfl, rfl, rfl, trivial⟩⟩
                              · exfalso
                                rw [hA] at hk
                                revert hk
                                simp only
                                split <;> omega
                              · rw [hA]; exact ⟨rfl, by simp only; omega, hw.2, Rch.last hcl (isWrd_lo hclw) (by omega) (by omega)⟩
                              · rw [hA]; exact h9
                            · try simp only [decide_eq_true_eq, decide_eq_false_iff_not, Bool.not_eq_true', Bool.not_eq_false', Bool.not_eq_eq_eq_not, Bool.not_true, Bool.not_false, beq_iff_eq, bne_iff_ne, ne_eq, beq_eq_false_iff_ne, bne_eq_false_iff_eq, gt_iff_lt, ge_iff_le, Int.not_lt, Int.not_le] at hc109
                              refine c_skip (x_then (hK33 _ _ ?_))
                              clear hK33 K33
                              refine c_exit (x_blkY rfl (x_thenX (x_blkY rfl (x_thenX (x_blkY rfl (x_thenX (x_blkY rfl (x_thenX (x_blkY rfl (x_thenX (x_blkX (x_then ?_))))))))))))
                              have hA := tok_word hc0 hlet
                              rw [if_neg (by omega)] at hA
                              exact ⟨14, twk isWrd s en, ⟨hT0, fun hk => by rw [hA]; rfl, fun hk => absurd (by rw [hA]) hk⟩, hL, by rw [hA]; exact h9, kp _ ⟨rfl, rfl, rfl, rfl, rfl, rfl, rfl, trivial⟩⟩
                          · try simp only [decide_eq_true_eq, decide_eq_false_iff_not, Bool.not_eq_true', Bool.not_eq_false', Bool.not_eq_eq_eq_not, Bool.not_true, Bool.not_false, beq_iff_eq, bne_iff_ne, ne_eq, beq_eq_false_iff_ne, bne_eq_false_iff_eq, gt_iff_lt, ge_iff_le, Int.not_lt, Int.not_le] at hc65
                            refine c_skip (x_then (hK31 _ _ ?_))
                            clear hK31 K31
                            refine c_seq (fun K37 hK37 => ?_)
                            refine c_seq (fun K38 hK38 => ?_)
                            have hnl : isLet c = false := Bool.eq_false_iff.2 (fun q => by have := (isLet_iff c).1 q; omega)
                            refine c_reg ?_ -- region 14 lex.go:85
                            refine wl (ro_move rfl) ?_
                            refine wl (ro_cmp rfl rfl rfl) ?_
                            refine wl_fork rfl (fun hg71 => ?_) (fun hg71 => ?_)
                            · try simp only [decide_eq_true_eq, decide_eq_false_iff_not, Bool.not_eq_true', Bool.not_eq_false', Bool.not_eq_eq_eq_not, Bool.not_true, Bool.not_false, beq_iff_eq, bne_iff_ne, ne_eq, beq_eq_false_iff_ne, bne_eq_false_iff_eq, gt_iff_lt, ge_iff_le, Int.not_lt, Int.not_le] at hg71
                              refine wlg_yes rfl (ro_move rfl) ?_
                              refine wlg_yes rfl (ro_cmp rfl rfl rfl) ?_
                              refine wl (ro_pick rfl rfl rfl) ?_
                              refine wl (ro_assign rfl) ?_
                              refine wl_nil (x_then (hK38 _ _ ?_))
                              clear hK38 K38
                              refine wc_cond rfl (fun hc68 => ?_) (fun hc68 => ?_)
                              · try simp only [decide_eq_true_eq, decide_eq_false_iff_not, Bool.not_eq_true', Bool.not_eq_false', Bool.not_eq_eq_eq_not, Bool.not_true, Bool.not_false, beq_iff_eq, bne_iff_ne, ne_eq, beq_eq_false_iff_ne, bne_eq_false_iff_eq, gt_iff_lt, ge_iff_le, Int.not_lt, Int.not_le] at hc68
                                have hdig : isDig c = true := (isDig_iff c).2 (by omega)
                                obtain ⟨hn1, hn2, dl, hdl, hdld⟩ := numE_last hc0 hdig
                                have hA := tok_num hc0 hdig hnl
                                have hlen : ((s.drop en).take (numE s en - en)).length = numE s en - en := by rw [List.length_take, List.length_drop]; omega
                                refine c_exit (x_thenX (x_thenX (x_blkY rfl (x_thenX (x_blkY rfl (x_thenX (x_blkY rfl (x_thenX (x_blkX (x_then (hK18 _ _ ?_)))))))))))
                                clear hK37 K37 hK22 K22 hK21 K21 hK20 K20 hK19 K19 hK18 K18
                                refine c_seq (fun K39 hK39 => ?_)
                                refine c_seq (fun K40 hK40 => ?_)
                                refine c_reg ?_ -- region 23 lex.go:86
                                refine wl (ro_move rfl) ?_
                                refine wl (ro_move rfl) ?_
                                refine wl_call rfl en_131 (number131 (by omega) (by omega)) ?_
                                rintro _ u0 ⟨rfl, hw0⟩
                                rw [hw0]
                                clear hw0 u0
                                refine wl (ro_assign rfl) ?_
                                refine wl_nil (x_then (hK40 _ _ ?_))
                                clear hK40 K40
                                refine forget [(0, _), (1, _), (4, _), (5, _), (6, _), (7, _), (9, _), (21, _), (39, _), (40, _), (43, _), (44, _), (47, _), (48, _), (72, _), (73, _)] ⟨rfl, rfl, rfl, rfl, rfl, rfl, rfl, rfl, rfl, rfl, rfl, rfl, rfl, rfl, rfl, rfl, trivial⟩ (fun e => ?_)
                                refine c_seq (fun K41 hK41 => ?_)
                                refine c_piL 15 [(0, false), (1, false), (2, false), (3, false), (4, false), (5, false), (6, false), (7, false), (8, true), (9, false), (10, false), (11, false), (12, false), (13, true), (14, false)] (fun w => Blk w.heap sb [np, .slice va n0 vc, N] 79) mixed (by kernel_rfl) rfl (by kernel_rfl) (po_then (po_then (po_blk (po_then (po_blk (po_then (po_blk (po_then (po_blk (po_then (po_blk (po_then (po_blk (po_then (po_blk (po_then (po_sc (po_bp)))))))))))))))))) (hX) ?_ -- region 24 lex.go:87
                                refine ql_ro rfl (fun w hS => ro_move rfl) ?_
                                refine ql_ro rfl (fun w hS => ro_nilCheck rfl) ?_
                                refine ql_ro rfl (fun w hS => ro_fieldAddr (k := 0) rfl fo_79_0) ?_
                                refine ql_ro rfl (fun w hS => ro_loadB rfl sc_36 (hS) rfl) ?_
                                refine ql_ro rfl (fun w hS => ro_move rfl) ?_
                                refine ql_ro rfl (fun w hS => ro_move rfl) ?_
                                refine ql_ro rfl (fun w hS => ro_move rfl) ?_
                                refine ql_ro rfl (fun w hS => ro_sliceSLH (l := en) (h := numE s en) rfl rfl rfl st_9 rfl rfl (by omega) (by omega)) ?_
                                refine ql_call rfl rfl en_132 (Parse132 (by rw [hlen]; omega)) ?_
                                rintro v u4 ⟨hP0, G4⟩
                                obtain ⟨x, e1, rfl, hP⟩ := hP0.form
                                clear hP0
                                refine ⟨G4.blkN hX, ?_⟩
                                replace hF := hF.transG G4 (by intro k hk h; simp only [one, none'] at h ⊢ <;> omega)
                                replace hX := G4.blkF hX (by intro h; simp only [one, none'] at h <;> omega)
                                replace h5 := G4.blkF h5 (by intro h; simp only [one, none'] at h <;> omega)
                                replace hL := hL.transG G4 (by intro k hk h; simp only [one, none'] at h ⊢ <;> omega)
                                replace h9 := G4.blkF h9 (by intro h; simp only [one, none'] at h <;> omega)
                                refine ql_ro rfl (fun w hS => ro_move rfl) ?_
                                refine ql_ro rfl (fun w hS => ro_extract rfl rfl) ?_
                                refine ql_ro rfl (fun w hS => ro_extract rfl rfl) ?_
                                refine ql_ro rfl (fun w hS => ro_fieldAddr (k := 3) rfl fo_182_3) ?_
                                refine ql_putm rfl rfl rfl rfl sz_117 h9 ((by simp)) (rfl) (fun w1 hB1 F ↦ (F.blkO hX (by omega))) (fun w7 h9 F7 => ?_)
                                replace hF := hF.thenDrew.thenO F7 (by first | exact .inr (by omega) | exact .inl rfl | exact .inl (by assumption) | assumption)
                                replace hX := F7.blkO hX (by omega)
                                replace h5 := F7.blkO h5 (by omega)
                                replace hL := hL.thenDrew.thenO F7 (by first | exact .inr (by omega) | exact .inl rfl | exact .inl (by assumption) | assumption)
                                refine ql_ro rfl (fun w hS => ro_fieldAddr (k := 4) rfl fo_182_4) ?_
                                refine ql_put rfl rfl rfl rfl sz_54 h9 ((by simp)) (rfl) (fun w8 h9 F8 => ?_)
                                replace hF := hF.thenDrew.thenO F8 (by first | exact .inr (by omega) | exact .inl rfl | exact .inl (by assumption) | assumption)
                                replace hX := F8.blkO hX (by omega)
                                replace h5 := F8.blkO h5 (by omega)
                                replace hL := hL.thenDrew.thenO F8 (by first | exact .inr (by omega) | exact .inl rfl | exact .inl (by assumption) | assumption)
                                refine x_then (hK41 _ _ ?_)
                                clear hK41 K41
                                refine c_seq (fun K42 hK42 => ?_)
                                refine c_seq (fun K43 hK43 => ?_)
                                refine c_reg ?_ -- region 25 lex.go:88
                                refine wl (ro_fieldAddr (k := 4) rfl fo_182_4) ?_
                                refine wl (ro_loadB rfl sc_54 (by assumption) rfl) ?_
                                refine wl (ro_cmp rfl rfl rfl) ?_
                                refine wl_nil (x_then (hK43 _ _ ?_))
                                clear hK43 K43
                                refine wc_cond rfl (fun hc138 => ?_) (fun hc138 => ?_)
                                · try simp only [decide_eq_true_eq, decide_eq_false_iff_not, Bool.not_eq_true', Bool.not_eq_false', Bool.not_eq_eq_eq_not, Bool.not_true, Bool.not_false, beq_iff_eq, bne_iff_ne, ne_eq, beq_eq_false_iff_ne, bne_eq_false_iff_eq, gt_iff_lt, ge_iff_le, Int.not_lt, Int.not_le] at hc138
                                  refine c_reg ?_ -- region 26 lex.go:89
                                  refine wl (ro_fieldAddr (k := 0) rfl fo_182_0) ?_
                                  refine wl_put rfl rfl rfl sz_180 h9 (by simp) (rfl) (fun w9 h9 F9 => ?_)
                                  replace hF := hF.thenDrew.thenO F9 (by first | exact .inr (by omega) | exact .inl rfl | exact .inl (by assumption) | assumption)
                                  replace hX := F9.blkO hX (by omega)
                                  replace h5 := F9.blkO h5 (by omega)
                                  replace hL := hL.thenDrew.thenO F9 (by first | exact .inr (by omega) | exact .inl rfl | exact .inl (by assumption) | assumption)
                                  refine wl_nil (x_then (hK42 _ _ ?_))
                                  clear hK42 K42
                                  refine c_reg ?_ -- region 27 lex.go:91
                                  refine wl (ro_fieldAddr (k := 4) rfl fo_182_4) ?_
                                  refine wl_put rfl rfl rfl sz_54 h9 (by simp) (rfl) (fun w10 h9 F10 => ?_)
                                  replace hF := hF.thenDrew.thenO F10 (by first | exact .inr (by omega) | exact .inl rfl | exact .inl (by assumption) | assumption)
                                  replace hX := F10.blkO hX (by omega)
                                  replace h5 := F10.blkO h5 (by omega)
                                  replace hL := hL.thenDrew.thenO F10 (by first | exact .inr (by omega) | exact .inl rfl | exact .inl (by assumption) | assumption)
                                  refine wl_nil (x_then (hK39 _ _ ?_))
                                  clear hK39 K39
                                  refine c_exit (x_blkY rfl (x_thenX (x_blkY rfl (x_thenX (x_blkY rfl (x_thenX (x_blkY rfl (x_thenX (x_blkX (x_then ?_))))))))))
                                  rcases hP with ⟨_, hP⟩ | ⟨hP, _⟩
                                  · rw [hP] at hA
                                    exact ⟨2, numE s en, ⟨hT0, fun hk => absurd hk (by rw [hA]; show ¬ (3 = 1); decide), fun _ => by rw [hA]; exact ⟨rfl, by simp only [hlen]; omega, hn2, Rch.last hdl (isDig_lo hdld) (by omega) (by omega)⟩⟩, hL, by rw [hA]; exact h9, kp _ ⟨rfl, rfl, rfl, rfl, rfl, rfl, rfl, trivial⟩⟩
                                  · exact absurd hc138 hP
                                · try simp only [decide_eq_true_eq, decide_eq_false_iff_not, Bool.not_eq_true', Bool.not_eq_false', Bool.not_eq_eq_eq_not, Bool.not_true, Bool.not_false, beq_iff_eq, bne_iff_ne, ne_eq, beq_eq_false_iff_ne, bne_eq_false_iff_eq, gt_iff_lt, ge_iff_le, Int.not_lt, Int.not_le] at hc138
                                  refine c_skip (x_then (hK42 _ _ ?_))
                                  clear hK42 K42
                                  refine c_reg ?_ -- region 27 lex.go:91
                                  refine wl (ro_fieldAddr (k := 4) rfl fo_182_4) ?_
                                  refine wl_put rfl rfl rfl sz_54 h9 (by simp) (rfl) (fun w11 h9 F11 => ?_)
                                  replace hF := hF.thenDrew.thenO F11 (by first | exact .inr (by omega) | exact .inl rfl | exact .inl (by assumption) | assumption)
                                  replace hX := F11.blkO hX (by omega)
                                  replace h5 := F11.blkO h5 (by omega)
                                  replace hL := hL.thenDrew.thenO F11 (by first | exact .inr (by omega) | exact .inl rfl | exact .inl (by assumption) | assumption)
                                  refine wl_nil (x_then (hK39 _ _ ?_))
                                  clear hK39 K39
                                  refine c_exit (x_blkY rfl (x_thenX (x_blkY rfl (x_thenX (x_blkY rfl (x_thenX (x_blkY rfl (x_thenX (x_blkX (x_then ?_))))))))))
                                  rcases hP with ⟨hP, _⟩ | ⟨_, rfl, hP⟩
                                  · exact absurd hP hc138
                                  · rw [hP] at hA
                                    exact ⟨2, numE s en, ⟨hT0, fun hk => by rw [hA]; rfl, fun hk => absurd (by rw [hA]) hk⟩, hL, by rw [hA]; exact h9, kp _ ⟨rfl, rfl, rfl, rfl, rfl, rfl, rfl, trivial⟩⟩
                              · try simp only [decide_eq_true_eq, decide_eq_false_iff_not, Bool.not_eq_true', Bool.not_eq_false', Bool.not_eq_eq_eq_not, Bool.not_true, Bool.not_false, beq_iff_eq, bne_iff_ne, ne_eq, beq_eq_false_iff_ne, bne_eq_false_iff_eq, gt_iff_lt, ge_iff_le, Int.not_lt, Int.not_le] at hc68
                                refine c_skip (x_then (hK37 _ _ ?_))
                                clear hK37 K37
                                refine c_seq (fun K44 hK44 => ?_)
                                refine c_seq (fun K45 hK45 => ?_)
                                have hnd : isDig c = false := Bool.eq_false_iff.2 (fun q => by have := (isDig_iff c).1 q; omega)
                                refine c_reg ?_ -- region 15 lex.go:92
                                refine wl (ro_move rfl) ?_
                                refine wl (ro_cmp rfl rfl rfl) ?_
                                refine wl (ro_assign rfl) ?_
                                refine wl_nil (x_then (hK45 _ _ ?_))
                                clear hK45 K45
                                refine wc_cond rfl (fun hc75 => ?_) (fun hc75 => ?_)
                                · try simp only [decide_eq_true_eq, decide_eq_false_iff_not, Bool.not_eq_true', Bool.not_eq_false', Bool.not_eq_eq_eq_not, Bool.not_true, Bool.not_false, beq_iff_eq, bne_iff_ne, ne_eq, beq_eq_false_iff_ne, bne_eq_false_iff_eq, gt_iff_lt, ge_iff_le, Int.not_lt, Int.not_le] at hc75
                                  have hc34 : c = 34 := (u8_beq c 34 (by decide)).2 (by omega)
                                  have hq := twk_le (p := notQ 34) (s := s) (i := en + 1) (by omega)
                                  subst hc34
                                  have hA := tok_str hc0
                                  refine c_exit (x_thenX (x_thenX (x_blkY rfl (x_thenX (x_blkY rfl (x_thenX (x_blkY rfl (x_thenX (x_blkY rfl (x_thenX (x_blkX (x_then (hK17 _ _ ?_)))))))))))))
                                  clear hK44 K44 hK22 K22 hK21 K21 hK20 K20 hK19 K19 hK18 K18 hK17 K17
                                  refine c_seq (fun K46 hK46 => ?_)
                                  refine c_seq (fun K47 hK47 => ?_)
                                  refine c_reg ?_ -- region 28 lex.go:93
                                  refine wl (ro_move rfl) ?_
                                  refine wl (ro_move rfl) ?_
                                  refine wl (ro_arith rfl rfl rfl (Go.IntWalk.i64_in _ (by omega))) ?_
                                  refine wl_call rfl en_127 (until127 (q := 34) (i := en + 1) (by omega) (by omega)) ?_
                                  rintro _ u0 ⟨rfl, hw0⟩
                                  rw [hw0]
                                  clear hw0 u0
                                  refine wl (ro_arith rfl rfl rfl (Go.IntWalk.i64_in _ (by omega))) ?_
                                  refine wl (ro_assign rfl) ?_
                                  refine wl_nil (x_then (hK47 _ _ ?_))
                                  clear hK47 K47
                                  refine forget [(0, _), (1, _), (4, _), (5, _), (6, _), (7, _), (9, _), (21, _), (39, _), (40, _), (43, _), (44, _), (47, _), (48, _), (72, _), (73, _)] ⟨rfl, rfl, rfl, rfl, rfl, rfl, rfl, rfl, rfl, rfl, rfl, rfl, rfl, rfl, rfl, rfl, trivial⟩ (fun e => ?_)
                                  refine c_seq (fun K48 hK48 => ?_)
                                  refine c_reg ?_ -- region 29 lex.go:94
                                  refine wl (ro_move rfl) ?_
                                  refine wl (ro_move rfl) ?_
                                  refine wl (ro_lenS rfl st_9) ?_
                                  refine wl (ro_cmp rfl rfl rfl) ?_
                                  refine wl_fork rfl (fun hg150 => ?_) (fun hg150 => ?_)
                                  · try simp only [decide_eq_true_eq, decide_eq_false_iff_not, Bool.not_eq_true', Bool.not_eq_false', Bool.not_eq_eq_eq_not, Bool.not_true, Bool.not_false, beq_iff_eq, bne_iff_ne, ne_eq, beq_eq_false_iff_ne, bne_eq_false_iff_eq, gt_iff_lt, ge_iff_le, Int.not_lt, Int.not_le] at hg150
                                    obtain ⟨cq, hcq⟩ : ∃ cq, s[twk (notQ 34) s (en + 1)]? = some cq := ⟨_, List.getElem?_eq_getElem (by omega)⟩
                                    refine wlg_yes rfl (ro_move rfl) ?_
                                    refine wlg_yes rfl (ro_move rfl) ?_
                                    refine wlg_yes rfl (ro_arith rfl rfl rfl (Go.IntWalk.i64_in _ (by omega))) ?_
                                    refine wlg_yes rfl (ro_indexS rfl rfl st_9 ((by omega)) (hcq)) ?_
                                    refine wlg_yes rfl (ro_cmp rfl rfl rfl) ?_
                                    refine wl (ro_pick rfl rfl rfl) ?_
                                    refine wl_fork rfl (fun hg157 => ?_) (fun hg157 => ?_)
                                    · try simp only [decide_eq_true_eq, decide_eq_false_iff_not, Bool.not_eq_true', Bool.not_eq_false', Bool.not_eq_eq_eq_not, Bool.not_true, Bool.not_false, beq_iff_eq, bne_iff_ne, ne_eq, beq_eq_false_iff_ne, bne_eq_false_iff_eq, gt_iff_lt, ge_iff_le, Int.not_lt, Int.not_le] at hg157
                                      refine wlg_yes rfl (ro_move rfl) ?_
                                      refine wlg_yes rfl (ro_move rfl) ?_
                                      refine wlg_yes rfl (ro_arith rfl rfl rfl (Go.IntWalk.i64_in _ (by omega))) ?_
                                      refine wlg_yes rfl (ro_arith rfl rfl rfl (Go.IntWalk.i64_in _ (by omega))) ?_
                                      refine wlg_yes rfl (ro_cmp rfl rfl rfl) ?_
                                      refine wl (ro_pick rfl rfl rfl) ?_
                                      refine wl_nil (x_then (hK48 _ _ ?_))
                                      clear hK48 K48
                                      refine wc_cond rfl (fun hc163 => ?_) (fun hc163 => ?_)
                                      · try simp only [decide_eq_true_eq, decide_eq_false_iff_not, Bool.not_eq_true', Bool.not_eq_false', Bool.not_eq_eq_eq_not, Bool.not_true, Bool.not_false, beq_iff_eq, bne_iff_ne, ne_eq, beq_eq_false_iff_ne, bne_eq_false_iff_eq, gt_iff_lt, ge_iff_le, Int.not_lt, Int.not_le] at hc163
                                        refine c_seq (fun K49 hK49 => ?_)
                                        refine c_reg ?_ -- region 30 lex.go:95
                                        refine wl (ro_fieldAddr (k := 0) rfl fo_182_0) ?_
                                        refine wl_put rfl rfl rfl sz_180 h9 (by simp) (rfl) (fun w12 h9 F12 => ?_)
                                        replace hF := hF.thenDrew.thenO F12 (by first | exact .inr (by omega) | exact .inl rfl | exact .inl (by assumption) | assumption)
                                        replace hX := F12.blkO hX (by omega)
                                        replace h5 := F12.blkO h5 (by omega)
                                        replace hL := hL.thenDrew.thenO F12 (by first | exact .inr (by omega) | exact .inl rfl | exact .inl (by assumption) | assumption)
                                        refine wl_nil (x_then (hK49 _ _ ?_))
                                        clear hK49 K49
                                        refine c_reg ?_ -- region 31 lex.go:96
                                        refine wl (ro_move rfl) ?_
                                        refine wl (ro_move rfl) ?_
                                        refine wl (ro_arith rfl rfl rfl (Go.IntWalk.i64_in _ (by omega))) ?_
                                        refine wl (ro_move rfl) ?_
                                        refine wl (ro_arith rfl rfl rfl (Go.IntWalk.i64_in _ (by omega))) ?_
                                        refine wl (ro_sliceSLH (l := en + 1) (h := twk (notQ 34) s (en + 1)) rfl rfl rfl st_9 rfl (by omega) (by omega) (by omega)) ?_
                                        refine wl (ro_fieldAddr (k := 2) rfl fo_182_2) ?_
                                        refine wl_put rfl rfl rfl sz_9 h9 (by simp) (rfl) (fun w13 h9 F13 => ?_)
                                        replace hF := hF.thenDrew.thenO F13 (by first | exact .inr (by omega) | exact .inl rfl | exact .inl (by assumption) | assumption)
                                        replace hX := F13.blkO hX (by omega)
                                        replace h5 := F13.blkO h5 (by omega)
                                        replace hL := hL.thenDrew.thenO F13 (by first | exact .inr (by omega) | exact .inl rfl | exact .inl (by assumption) | assumption)
                                        refine wl_nil (x_then (hK46 _ _ ?_))
                                        clear hK46 K46
                                        refine c_exit (x_blkY rfl (x_thenX (x_blkY rfl (x_thenX (x_blkY rfl (x_thenX (x_blkX (x_then ?_))))))))
                                        rw [if_pos ⟨by rw [hcq]; exact congrArg some ((u8_beq cq 34 (by decide)).2 hg157), by omega⟩] at hA
                                        exact ⟨14, twk (notQ 34) s (en + 1) + 1, ⟨hT0, fun hk => absurd hk (by rw [hA]; show ¬ (4 = 1); decide), fun _ => by rw [hA]; exact ⟨rfl, by simp only; omega, by omega, Rch.last (c := cq) (by simpa using hcq) (by omega) (by omega) (by omega)⟩⟩, hL, by rw [hA]; exact h9, kp _ ⟨rfl, rfl, rfl, rfl, rfl, rfl, rfl, trivial⟩⟩
                                      · try simp only [decide_eq_true_eq, decide_eq_false_iff_not, Bool.not_eq_true', Bool.not_eq_false', Bool.not_eq_eq_eq_not, Bool.not_true, Bool.not_false, beq_iff_eq, bne_iff_ne, ne_eq, beq_eq_false_iff_ne, bne_eq_false_iff_eq, gt_iff_lt, ge_iff_le, Int.not_lt, Int.not_le] at hc163
                                        refine c_skip (x_then (hK46 _ _ ?_))
                                        clear hK46 K46
                                        refine c_exit (x_blkY rfl (x_thenX (x_blkY rfl (x_thenX (x_blkY rfl (x_thenX (x_blkX (x_then ?_))))))))
                                        rw [if_neg (fun q => by have := q.2; omega)] at hA
                                        exact ⟨14, twk (notQ 34) s (en + 1) + 1, ⟨hT0, fun hk => by rw [hA]; rfl, fun hk => absurd (by rw [hA]) hk⟩, hL, by rw [hA]; exact h9, kp _ ⟨rfl, rfl, rfl, rfl, rfl, rfl, rfl, trivial⟩⟩
                                    · try simp only [decide_eq_true_eq, decide_eq_false_iff_not, Bool.not_eq_true', Bool.not_eq_false', Bool.not_eq_eq_eq_not, Bool.not_true, Bool.not_false, beq_iff_eq, bne_iff_ne, ne_eq, beq_eq_false_iff_ne, bne_eq_false_iff_eq, gt_iff_lt, ge_iff_le, Int.not_lt, Int.not_le] at hg157
                                      refine wlg_no rfl ?_
                                      refine wlg_no rfl ?_
                                      refine wlg_no rfl ?_
                                      refine wlg_no rfl ?_
                                      refine wlg_no rfl ?_
                                      refine wl (ro_pick rfl rfl rfl) ?_
                                      refine wl_nil (x_then (hK48 _ _ ?_))
                                      clear hK48 K48
                                      refine wc_condF rfl ?_
                                      refine c_skip (x_then (hK46 _ _ ?_))
                                      clear hK46 K46
                                      refine c_exit (x_blkY rfl (x_thenX (x_blkY rfl (x_thenX (x_blkY rfl (x_thenX (x_blkX (x_then ?_))))))))
                                      rw [if_neg (fun q => by have q1 := q.1; rw [hcq] at q1; cases q1; exact hg157 rfl)] at hA
                                      exact ⟨14, twk (notQ 34) s (en + 1) + 1, ⟨hT0, fun hk => by rw [hA]; rfl, fun hk => absurd (by rw [hA]) hk⟩, hL, by rw [hA]; exact h9, kp _ ⟨rfl, rfl, rfl, rfl, rfl, rfl, rfl, trivial⟩⟩
                                  · try simp only [decide_eq_true_eq, decide_eq_false_iff_not, Bool.not_eq_true', Bool.not_eq_false', Bool.not_eq_eq_eq_not, Bool.not_true, Bool.not_false, beq_iff_eq, bne_iff_ne, ne_eq, beq_eq_false_iff_ne, bne_eq_false_iff_eq, gt_iff_lt, ge_iff_le, Int.not_lt, Int.not_le] at hg150
                                    refine wlg_no rfl ?_
                                    refine wlg_no rfl ?_
                                    refine wlg_no rfl ?_
                                    refine wlg_no rfl ?_
                                    refine wlg_no rfl ?_
                                    refine wl (ro_pick rfl rfl rfl) ?_
                                    refine wl (ro_move rfl) ?_
                                    refine wlg_no rfl ?_
                                    refine wlg_no rfl ?_
                                    refine wlg_no rfl ?_
                                    refine wlg_no rfl ?_
                                    refine wlg_no rfl ?_
                                    refine wl (ro_pick rfl rfl rfl) ?_
                                    refine wl_nil (x_then (hK48 _ _ ?_))
                                    clear hK48 K48
                                    refine wc_condF rfl ?_
                                    refine c_skip (x_then (hK46 _ _ ?_))
                                    clear hK46 K46
                                    refine c_exit (x_blkY rfl (x_thenX (x_blkY rfl (x_thenX (x_blkY rfl (x_thenX (x_blkX (x_then ?_))))))))
                                    rw [if_neg (fun q => by have := (List.getElem?_eq_some_iff.1 q.1).1; omega)] at hA
                                    exact ⟨14, twk (notQ 34) s (en + 1) + 1, ⟨hT0, fun hk => by rw [hA]; rfl, fun hk => absurd (by rw [hA]) hk⟩, hL, by rw [hA]; exact h9, kp _ ⟨rfl, rfl, rfl, rfl, rfl, rfl, rfl, trivial⟩⟩
                                · try simp only [decide_eq_true_eq, decide_eq_false_iff_not, Bool.not_eq_true', Bool.not_eq_false', Bool.not_eq_eq_eq_not, Bool.not_true, Bool.not_false, beq_iff_eq, bne_iff_ne, ne_eq, beq_eq_false_iff_ne, bne_eq_false_iff_eq, gt_iff_lt, ge_iff_le, Int.not_lt, Int.not_le] at hc75
                                  refine c_skip (x_then (hK44 _ _ ?_))
                                  clear hK44 K44
                                  refine c_seq (fun K50 hK50 => ?_)
                                  refine c_seq (fun K51 hK51 => ?_)
                                  have hn34 : c ≠ 34 := fun e => by
                                    have : c.toNat = 34 := by rw [e]; rfl
                                    omega
                                  have hA := tok_sgn (s := s) (p := en) hnl hnd hn34
                                  refine c_reg ?_ -- region 16 lex.go:98
                                  refine wl (ro_move rfl) ?_
                                  refine wl (ro_cmp rfl rfl rfl) ?_
                                  refine wl_fork rfl (fun hg81 => ?_) (fun hg81 => ?_)
                                  · try simp only [decide_eq_true_eq, decide_eq_false_iff_not, Bool.not_eq_true', Bool.not_eq_false', Bool.not_eq_eq_eq_not, Bool.not_true, Bool.not_false, beq_iff_eq, bne_iff_ne, ne_eq, beq_eq_false_iff_ne, bne_eq_false_iff_eq, gt_iff_lt, ge_iff_le, Int.not_lt, Int.not_le] at hg81
                                    refine wlg_no rfl ?_
                                    refine wlg_no rfl ?_
                                    refine wl (ro_pick rfl rfl rfl) ?_
                                    refine wl (ro_assign rfl) ?_
                                    refine wl_nil (x_then (hK51 _ _ ?_))
                                    clear hK51 K51
                                    refine wc_condT rfl ?_
                                    refine c_exit (x_thenX (x_thenX (x_blkY rfl (x_thenX (x_blkY rfl (x_thenX (x_blkY rfl (x_thenX (x_blkY rfl (x_thenX (x_blkY rfl (x_thenX (x_blkX (x_then (hK16 _ _ ?_)))))))))))))))
                                    clear hK50 K50 hK22 K22 hK21 K21 hK20 K20 hK19 K19 hK18 K18 hK17 K17 hK16 K16
                                    refine c_reg ?_ -- region 32 lex.go:99
                                    refine wl (ro_move rfl) ?_
                                    refine wl (ro_conv rfl sc_21 in_5 (Go.IntWalk.u8_in _ (by omega))) ?_
                                    refine wl (ro_assign rfl) ?_
                                    refine wl_nil (x_blk (x_then ?_))
                                    exact ⟨c, hlo, hlo, hz1, hT0, twoC_dbl (by omega), hA, hL, h9, kp _ ⟨rfl, rfl, rfl, rfl, rfl, rfl, rfl, rfl, rfl, rfl, trivial⟩⟩
                                  · try simp only [decide_eq_true_eq, decide_eq_false_iff_not, Bool.not_eq_true', Bool.not_eq_false', Bool.not_eq_eq_eq_not, Bool.not_true, Bool.not_false, beq_iff_eq, bne_iff_ne, ne_eq, beq_eq_false_iff_ne, bne_eq_false_iff_eq, gt_iff_lt, ge_iff_le, Int.not_lt, Int.not_le] at hg81
                                    refine wlg_yes rfl (ro_move rfl) ?_
                                    refine wlg_yes rfl (ro_cmp rfl rfl rfl) ?_
                                    refine wl (ro_pick rfl rfl rfl) ?_
                                    refine wl (ro_assign rfl) ?_
                                    refine wl_nil (x_then (hK51 _ _ ?_))
                                    clear hK51 K51
                                    refine wc_cond rfl (fun hc78 => ?_) (fun hc78 => ?_)
                                    · try simp only [decide_eq_true_eq, decide_eq_false_iff_not, Bool.not_eq_true', Bool.not_eq_false', Bool.not_eq_eq_eq_not, Bool.not_true, Bool.not_false, beq_iff_eq, bne_iff_ne, ne_eq, beq_eq_false_iff_ne, bne_eq_false_iff_eq, gt_iff_lt, ge_iff_le, Int.not_lt, Int.not_le] at hc78
                                      refine c_exit (x_thenX (x_thenX (x_blkY rfl (x_thenX (x_blkY rfl (x_thenX (x_blkY rfl (x_thenX (x_blkY rfl (x_thenX (x_blkY rfl (x_thenX (x_blkX (x_then (hK16 _ _ ?_)))))))))))))))
                                      clear hK50 K50 hK22 K22 hK21 K21 hK20 K20 hK19 K19 hK18 K18 hK17 K17 hK16 K16
                                      refine c_reg ?_ -- region 32 lex.go:99
                                      refine wl (ro_move rfl) ?_
                                      refine wl (ro_conv rfl sc_21 in_5 (Go.IntWalk.u8_in _ (by omega))) ?_
                                      refine wl (ro_assign rfl) ?_
                                      refine wl_nil (x_blk (x_then ?_))
                                      exact ⟨c, hlo, hlo, hz1, hT0, twoC_dbl (by omega), hA, hL, h9, kp _ ⟨rfl, rfl, rfl, rfl, rfl, rfl, rfl, rfl, rfl, rfl, trivial⟩⟩
                                    · try simp only [decide_eq_true_eq, decide_eq_false_iff_not, Bool.not_eq_true', Bool.not_eq_false', Bool.not_eq_eq_eq_not, Bool.not_true, Bool.not_false, beq_iff_eq, bne_iff_ne, ne_eq, beq_eq_false_iff_ne, bne_eq_false_iff_eq, gt_iff_lt, ge_iff_le, Int.not_lt, Int.not_le] at hc78
                                      refine c_skip (x_then (hK50 _ _ ?_))
                                      clear hK50 K50
                                      refine forget [(0, _), (1, _), (4, _), (5, _), (6, _), (7, _), (8, _), (9, _), (10, _), (11, _), (21, _), (39, _), (40, _), (43, _), (44, _), (47, _), (48, _), (72, _), (73, _), (82, _), (83, _)] ⟨rfl, rfl, rfl, rfl, rfl, rfl, rfl, rfl, rfl, rfl, rfl, rfl, rfl, rfl, rfl, rfl, rfl, rfl, rfl, rfl, rfl, trivial⟩ (fun e => ?_)
                                      refine c_seq (fun K52 hK52 => ?_)
                                      refine c_reg ?_ -- region 17 lex.go:101
                                      refine wl (ro_move rfl) ?_
                                      refine wl (ro_cmp rfl rfl rfl) ?_
                                      refine wl_fork rfl (fun hg88 => ?_) (fun hg88 => ?_)
                                      · try simp only [decide_eq_true_eq, decide_eq_false_iff_not, Bool.not_eq_true', Bool.not_eq_false', Bool.not_eq_eq_eq_not, Bool.not_true, Bool.not_false, beq_iff_eq, bne_iff_ne, ne_eq, beq_eq_false_iff_ne, bne_eq_false_iff_eq, gt_iff_lt, ge_iff_le, Int.not_lt, Int.not_le] at hg88
                                        refine wlg_no rfl ?_
                                        refine wlg_no rfl ?_
                                        refine wl (ro_pick rfl rfl rfl) ?_
                                        refine wl (ro_move rfl) ?_
                                        refine wlg_no rfl ?_
                                        refine wlg_no rfl ?_
                                        refine wl (ro_pick rfl rfl rfl) ?_
                                        refine wl (ro_move rfl) ?_
                                        refine wlg_no rfl ?_
                                        refine wlg_no rfl ?_
                                        refine wl (ro_pick rfl rfl rfl) ?_
                                        refine wl (ro_assign rfl) ?_
                                        refine wl_nil (x_then (hK52 _ _ ?_))
                                        clear hK52 K52
                                        refine wc_condT rfl ?_
                                        refine c_exit (x_thenX (x_blkY rfl (x_thenX (x_blkY rfl (x_thenX (x_blkY rfl (x_thenX (x_blkY rfl (x_thenX (x_blkY rfl (x_thenX (x_blkY rfl (x_thenX (x_blkX (x_then ?_)))))))))))))))
                                        exact ⟨61, hlo, by decide, hz1, hT0, twoC_eq (by omega), hA, hL, h9, kp _ ⟨rfl, rfl, rfl, rfl, rfl, rfl, rfl, rfl, rfl, rfl, trivial⟩⟩
                                      · try simp only [decide_eq_true_eq, decide_eq_false_iff_not, Bool.not_eq_true', Bool.not_eq_false', Bool.not_eq_eq_eq_not, Bool.not_true, Bool.not_false, beq_iff_eq, bne_iff_ne, ne_eq, beq_eq_false_iff_ne, bne_eq_false_iff_eq, gt_iff_lt, ge_iff_le, Int.not_lt, Int.not_le] at hg88
                                        refine wlg_yes rfl (ro_move rfl) ?_
                                        refine wlg_yes rfl (ro_cmp rfl rfl rfl) ?_
                                        refine wl (ro_pick rfl rfl rfl) ?_
                                        refine wl_fork rfl (fun hg92 => ?_) (fun hg92 => ?_)
                                        · try simp only [decide_eq_true_eq, decide_eq_false_iff_not, Bool.not_eq_true', Bool.not_eq_false', Bool.not_eq_eq_eq_not, Bool.not_true, Bool.not_false, beq_iff_eq, bne_iff_ne, ne_eq, beq_eq_false_iff_ne, bne_eq_false_iff_eq, gt_iff_lt, ge_iff_le, Int.not_lt, Int.not_le] at hg92
                                          refine wlg_no rfl ?_
                                          refine wlg_no rfl ?_
                                          refine wl (ro_pick rfl rfl rfl) ?_
                                          refine wl (ro_move rfl) ?_
                                          refine wlg_no rfl ?_
                                          refine wlg_no rfl ?_
                                          refine wl (ro_pick rfl rfl rfl) ?_
                                          refine wl (ro_assign rfl) ?_
                                          refine wl_nil (x_then (hK52 _ _ ?_))
                                          clear hK52 K52
                                          refine wc_condT rfl ?_
                                          refine c_exit (x_thenX (x_blkY rfl (x_thenX (x_blkY rfl (x_thenX (x_blkY rfl (x_thenX (x_blkY rfl (x_thenX (x_blkY rfl (x_thenX (x_blkY rfl (x_thenX (x_blkX (x_then ?_)))))))))))))))
                                          exact ⟨61, hlo, by decide, hz1, hT0, twoC_eq (by omega), hA, hL, h9, kp _ ⟨rfl, rfl, rfl, rfl, rfl, rfl, rfl, rfl, rfl, rfl, trivial⟩⟩
                                        · try simp only [decide_eq_true_eq, decide_eq_false_iff_not, Bool.not_eq_true', Bool.not_eq_false', Bool.not_eq_eq_eq_not, Bool.not_true, Bool.not_false, beq_iff_eq, bne_iff_ne, ne_eq, beq_eq_false_iff_ne, bne_eq_false_iff_eq, gt_iff_lt, ge_iff_le, Int.not_lt, Int.not_le] at hg92
                                          refine wlg_yes rfl (ro_move rfl) ?_
                                          refine wlg_yes rfl (ro_cmp rfl rfl rfl) ?_
                                          refine wl (ro_pick rfl rfl rfl) ?_
                                          refine wl_fork rfl (fun hg96 => ?_) (fun hg96 => ?_)
                                          · try simp only [decide_eq_true_eq, decide_eq_false_iff_not, Bool.not_eq_true', Bool.not_eq_false', Bool.not_eq_eq_eq_not, Bool.not_true, Bool.not_false, beq_iff_eq, bne_iff_ne, ne_eq, beq_eq_false_iff_ne, bne_eq_false_iff_eq, gt_iff_lt, ge_iff_le, Int.not_lt, Int.not_le] at hg96
                                            refine wlg_no rfl ?_
                                            refine wlg_no rfl ?_
                                            refine wl (ro_pick rfl rfl rfl) ?_
                                            refine wl (ro_assign rfl) ?_
                                            refine wl_nil (x_then (hK52 _ _ ?_))
                                            clear hK52 K52
                                            refine wc_condT rfl ?_
                                            refine c_exit (x_thenX (x_blkY rfl (x_thenX (x_blkY rfl (x_thenX (x_blkY rfl (x_thenX (x_blkY rfl (x_thenX (x_blkY rfl (x_thenX (x_blkY rfl (x_thenX (x_blkX (x_then ?_)))))))))))))))
                                            exact ⟨61, hlo, by decide, hz1, hT0, twoC_eq (by omega), hA, hL, h9, kp _ ⟨rfl, rfl, rfl, rfl, rfl, rfl, rfl, rfl, rfl, rfl, trivial⟩⟩
                                          · try simp only [decide_eq_true_eq, decide_eq_false_iff_not, Bool.not_eq_true', Bool.not_eq_false', Bool.not_eq_eq_eq_not, Bool.not_true, Bool.not_false, beq_iff_eq, bne_iff_ne, ne_eq, beq_eq_false_iff_ne, bne_eq_false_iff_eq, gt_iff_lt, ge_iff_le, Int.not_lt, Int.not_le] at hg96
                                            refine wlg_yes rfl (ro_move rfl) ?_
                                            refine wlg_yes rfl (ro_cmp rfl rfl rfl) ?_
                                            refine wl (ro_pick rfl rfl rfl) ?_
                                            refine wl (ro_assign rfl) ?_
                                            refine wl_nil (x_then (hK52 _ _ ?_))
                                            clear hK52 K52
                                            refine wc_cond rfl (fun hc85 => ?_) (fun hc85 => ?_)
                                            · try simp only [decide_eq_true_eq, decide_eq_false_iff_not, Bool.not_eq_true', Bool.not_eq_false', Bool.not_eq_eq_eq_not, Bool.not_true, Bool.not_false, beq_iff_eq, bne_iff_ne, ne_eq, beq_eq_false_iff_ne, bne_eq_false_iff_eq, gt_iff_lt, ge_iff_le, Int.not_lt, Int.not_le] at hc85
                                              refine c_exit (x_thenX (x_blkY rfl (x_thenX (x_blkY rfl (x_thenX (x_blkY rfl (x_thenX (x_blkY rfl (x_thenX (x_blkY rfl (x_thenX (x_blkY rfl (x_thenX (x_blkX (x_then ?_)))))))))))))))
                                              exact ⟨61, hlo, by decide, hz1, hT0, twoC_eq (by omega), hA, hL, h9, kp _ ⟨rfl, rfl, rfl, rfl, rfl, rfl, rfl, rfl, rfl, rfl, trivial⟩⟩
                                            · try simp only [decide_eq_true_eq, decide_eq_false_iff_not, Bool.not_eq_true', Bool.not_eq_false', Bool.not_eq_eq_eq_not, Bool.not_true, Bool.not_false, beq_iff_eq, bne_iff_ne, ne_eq, beq_eq_false_iff_ne, bne_eq_false_iff_eq, gt_iff_lt, ge_iff_le, Int.not_lt, Int.not_le] at hc85
                                              refine c_skip (x_then (hK22 _ _ ?_))
                                              clear hK22 K22
                                              refine c_exit (x_blkY rfl (x_thenX (x_blkY rfl (x_thenX (x_blkY rfl (x_thenX (x_blkY rfl (x_thenX (x_blkY rfl (x_thenX (x_blkY rfl (x_thenX (x_blkY rfl (x_thenX (x_blkX (x_then ?_))))))))))))))))
                                              rw [twoC_no' (twoC_no (c := c) (by omega))] at hA
                                              exact ⟨[c], en + 1, ⟨hT0, by rw [hA]; rfl, fun _ => ⟨by rw [hA]; rfl, by omega, .inr ⟨by omega, .inl (by omega)⟩⟩⟩, hL, h9, kp _ ⟨rfl, rfl, rfl, rfl, rfl, rfl, rfl, rfl, trivial⟩⟩
                            · try simp only [decide_eq_true_eq, decide_eq_false_iff_not, Bool.not_eq_true', Bool.not_eq_false', Bool.not_eq_eq_eq_not, Bool.not_true, Bool.not_false, beq_iff_eq, bne_iff_ne, ne_eq, beq_eq_false_iff_ne, bne_eq_false_iff_eq, gt_iff_lt, ge_iff_le, Int.not_lt, Int.not_le] at hg71
                              refine wlg_no rfl ?_
                              refine wlg_no rfl ?_
                              refine wl (ro_pick rfl rfl rfl) ?_
                              refine wl (ro_assign rfl) ?_
                              refine wl_nil (x_then (hK38 _ _ ?_))
                              clear hK38 K38
                              refine wc_condF rfl ?_
                              refine c_skip (x_then (hK37 _ _ ?_))
                              clear hK37 K37
                              refine c_seq (fun K53 hK53 => ?_)
                              refine c_seq (fun K54 hK54 => ?_)
                              have hnd : isDig c = false := Bool.eq_false_iff.2 (fun q => by have := (isDig_iff c).1 q; omega)
                              refine c_reg ?_ -- region 15 lex.go:92
                              refine wl (ro_move rfl) ?_
                              refine wl (ro_cmp rfl rfl rfl) ?_
                              refine wl (ro_assign rfl) ?_
                              refine wl_nil (x_then (hK54 _ _ ?_))
                              clear hK54 K54
                              refine wc_cond rfl (fun hc75 => ?_) (fun hc75 => ?_)
                              · try simp only [decide_eq_true_eq, decide_eq_false_iff_not, Bool.not_eq_true', Bool.not_eq_false', Bool.not_eq_eq_eq_not, Bool.not_true, Bool.not_false, beq_iff_eq, bne_iff_ne, ne_eq, beq_eq_false_iff_ne, bne_eq_false_iff_eq, gt_iff_lt, ge_iff_le, Int.not_lt, Int.not_le] at hc75
                                have hc34 : c = 34 := (u8_beq c 34 (by decide)).2 (by omega)
                                have hq := twk_le (p := notQ 34) (s := s) (i := en + 1) (by omega)
                                subst hc34
                                have hA := tok_str hc0
                                refine c_exit (x_thenX (x_thenX (x_blkY rfl (x_thenX (x_blkY rfl (x_thenX (x_blkY rfl (x_thenX (x_blkY rfl (x_thenX (x_blkX (x_then (hK17 _ _ ?_)))))))))))))
                                clear hK53 K53 hK22 K22 hK21 K21 hK20 K20 hK19 K19 hK18 K18 hK17 K17
                                refine c_seq (fun K55 hK55 => ?_)
                                refine c_seq (fun K56 hK56 => ?_)
                                refine c_reg ?_ -- region 28 lex.go:93
                                refine wl (ro_move rfl) ?_
                                refine wl (ro_move rfl) ?_
                                refine wl (ro_arith rfl rfl rfl (Go.IntWalk.i64_in _ (by omega))) ?_
                                refine wl_call rfl en_127 (until127 (q := 34) (i := en + 1) (by omega) (by omega)) ?_
                                rintro _ u0 ⟨rfl, hw0⟩
                                rw [hw0]
                                clear hw0 u0
                                refine wl (ro_arith rfl rfl rfl (Go.IntWalk.i64_in _ (by omega))) ?_
                                refine wl (ro_assign rfl) ?_
                                refine wl_nil (x_then (hK56 _ _ ?_))
                                clear hK56 K56
                                refine forget [(0, _), (1, _), (4, _), (5, _), (6, _), (7, _), (9, _), (21, _), (39, _), (40, _), (43, _), (44, _), (47, _), (48, _)] ⟨rfl, rfl, rfl, rfl, rfl, rfl, rfl, rfl, rfl, rfl, rfl, rfl, rfl, rfl, trivial⟩ (fun e => ?_)
                                refine c_seq (fun K57 hK57 => ?_)
                                refine c_reg ?_ -- region 29 lex.go:94
                                refine wl (ro_move rfl) ?_
                                refine wl (ro_move rfl) ?_
                                refine wl (ro_lenS rfl st_9) ?_
                                refine wl (ro_cmp rfl rfl rfl) ?_
                                refine wl_fork rfl (fun hg150 => ?_) (fun hg150 => ?_)
                                · try simp only [decide_eq_true_eq, decide_eq_false_iff_not, Bool.not_eq_true', Bool.not_eq_false', Bool.not_eq_eq_eq_not, Bool.not_true, Bool.not_false, beq_iff_eq, bne_iff_ne, ne_eq, beq_eq_false_iff_ne, bne_eq_false_iff_eq, gt_iff_lt, ge_iff_le, Int.not_lt, Int.not_le] at hg150
                                  obtain ⟨cq, hcq⟩ : ∃ cq, s[twk (notQ 34) s (en + 1)]? = some cq := ⟨_, List.getElem?_eq_getElem (by omega)⟩
                                  refine wlg_yes rfl (ro_move rfl) ?_
                                  refine wlg_yes rfl (ro_move rfl) ?_
                                  refine wlg_yes rfl (ro_arith rfl rfl rfl (Go.IntWalk.i64_in _ (by omega))) ?_
                                  refine wlg_yes rfl (ro_indexS rfl rfl st_9 ((by omega)) (hcq)) ?_
                                  refine wlg_yes rfl (ro_cmp rfl rfl rfl) ?_
                                  refine wl (ro_pick rfl rfl rfl) ?_
                                  refine wl_fork rfl (fun hg157 => ?_) (fun hg157 => ?_)
                                  · try simp only [decide_eq_true_eq, decide_eq_false_iff_not, Bool.not_eq_true', Bool.not_eq_false', Bool.not_eq_eq_eq_not, Bool.not_true, Bool.not_false, beq_iff_eq, bne_iff_ne, ne_eq, beq_eq_false_iff_ne, bne_eq_false_iff_eq, gt_iff_lt, ge_iff_le, Int.not_lt, Int.not_le] at hg157
                                    refine wlg_yes rfl (ro_move rfl) ?_
                                    refine wlg_yes rfl (ro_move rfl) ?_
                                    refine wlg_yes rfl (ro_arith rfl rfl rfl (Go.IntWalk.i64_in _ (by omega))) ?_
                                    refine wlg_yes rfl (ro_arith rfl rfl rfl (Go.IntWalk.i64_in _ (by omega))) ?_
                                    refine wlg_yes rfl (ro_cmp rfl rfl rfl) ?_
                                    refine wl (ro_pick rfl rfl rfl) ?_
                                    refine wl_nil (x_then (hK57 _ _ ?_))
                                    clear hK57 K57
                                    refine wc_cond rfl (fun hc163 => ?_) (fun hc163 => ?_)
                                    · try simp only [decide_eq_true_eq, decide_eq_false_iff_not, Bool.not_eq_true', Bool.not_eq_false', Bool.not_eq_eq_eq_not, Bool.not_true, Bool.not_false, beq_iff_eq, bne_iff_ne, ne_eq, beq_eq_false_iff_ne, bne_eq_false_iff_eq, gt_iff_lt, ge_iff_le, Int.not_lt, Int.not_le] at hc163
                                      refine c_seq (fun K58 hK58 => ?_)
                                      refine c_reg ?_ -- region 30 lex.go:95
                                      refine wl (ro_fieldAddr (k := 0) rfl fo_182_0) ?_
                                      refine wl_put rfl rfl rfl sz_180 h9 (by simp) (rfl) (fun w14 h9 F14 => ?_)
                                      replace hF := hF.thenDrew.thenO F14 (by first | exact .inr (by omega) | exact .inl rfl | exact .inl (by assumption) | assumption)
                                      replace hX := F14.blkO hX (by omega)
                                      replace h5 := F14.blkO h5 (by omega)
                                      replace hL := hL.thenDrew.thenO F14 (by first | exact .inr (by omega) | exact .inl rfl | exact .inl (by assumption) | assumption)
                                      refine wl_nil (x_then (hK58 _ _ ?_))
                                      clear hK58 K58
                                      refine c_reg ?_ -- region 31 lex.go:96
                                      refine wl (ro_move rfl) ?_
                                      refine wl (ro_move rfl) ?_
                                      refine wl (ro_arith rfl rfl rfl (Go.IntWalk.i64_in _ (by omega))) ?_
                                      refine wl (ro_move rfl) ?_
                                      refine wl (ro_arith rfl rfl rfl (Go.IntWalk.i64_in _ (by omega))) ?_
                                      refine wl (ro_sliceSLH (l := en + 1) (h := twk (notQ 34) s (en + 1)) rfl rfl rfl st_9 rfl (by omega) (by omega) (by omega)) ?_
                                      refine wl (ro_fieldAddr (k := 2) rfl fo_182_2) ?_
                                      refine wl_put rfl rfl rfl sz_9 h9 (by simp) (rfl) (fun w15 h9 F15 => ?_)
                                      replace hF := hF.thenDrew.thenO F15 (by first | exact .inr (by omega) | exact .inl rfl | exact .inl (by assumption) | assumption)
                                      replace hX := F15.blkO hX (by omega)
                                      replace h5 := F15.blkO h5 (by omega)
                                      replace hL := hL.thenDrew.thenO F15 (by first | exact .inr (by omega) | exact .inl rfl | exact .inl (by assumption) | assumption)
                                      refine wl_nil (x_then (hK55 _ _ ?_))
                                      clear hK55 K55
                                      refine c_exit (x_blkY rfl (x_thenX (x_blkY rfl (x_thenX (x_blkY rfl (x_thenX (x_blkX (x_then ?_))))))))
                                      rw [if_pos ⟨by rw [hcq]; exact congrArg some ((u8_beq cq 34 (by decide)).2 hg157), by omega⟩] at hA
                                      exact ⟨14, twk (notQ 34) s (en + 1) + 1, ⟨hT0, fun hk => absurd hk (by rw [hA]; show ¬ (4 = 1); decide), fun _ => by rw [hA]; exact ⟨rfl, by simp only; omega, by omega, Rch.last (c := cq) (by simpa using hcq) (by omega) (by omega) (by omega)⟩⟩, hL, by rw [hA]; exact h9, kp _ ⟨rfl, rfl, rfl, rfl, rfl, rfl, rfl, trivial⟩⟩
                                    · try simp only [decide_eq_true_eq, decide_eq_false_iff_not, Bool.not_eq_true', Bool.not_eq_false', Bool.not_eq_eq_eq_not, Bool.not_true, Bool.not_false, beq_iff_eq, bne_iff_ne, ne_eq, beq_eq_false_iff_ne, bne_eq_false_iff_eq, gt_iff_lt, ge_iff_le, Int.not_lt, Int.not_le] at hc163
                                      refine c_skip (x_then (hK55 _ _ ?_))
                                      clear hK55 K55
                                      refine c_exit (x_blkY rfl (x_thenX (x_blkY rfl (x_thenX (x_blkY rfl (x_thenX (x_blkX (x_then ?_))))))))
                                      rw [if_neg (fun q => by have := q.2; omega)] at hA
                                      exact ⟨14, twk (notQ 34) s (en + 1) + 1, ⟨hT0, fun hk => by rw [hA]; rfl, fun hk => absurd (by rw [hA]) hk⟩, hL, by rw [hA]; exact h9, kp _ ⟨rfl, rfl, rfl, rfl, rfl, rfl, rfl, trivial⟩⟩
                                  · try simp only [decide_eq_true_eq, decide_eq_false_iff_not, Bool.not_eq_true', Bool.not_eq_false', Bool.not_eq_eq_eq_not, Bool.not_true, Bool.not_false, beq_iff_eq, bne_iff_ne, ne_eq, beq_eq_false_iff_ne, bne_eq_false_iff_eq, gt_iff_lt, ge_iff_le, Int.not_lt, Int.not_le] at hg157
                                    refine wlg_no rfl ?_
                                    refine wlg_no rfl ?_
                                    refine wlg_no rfl ?_
                                    refine wlg_no rfl ?_
                                    refine wlg_no rfl ?_
                                    refine wl (ro_pick rfl rfl rfl) ?_
                                    refine wl_nil (x_then (hK57 _ _ ?_))
                                    clear hK57 K57
                                    refine wc_condF rfl ?_
                                    refine c_skip (x_then (hK55 _ _ ?_))
                                    clear hK55 K55
                                    refine c_exit (x_blkY rfl (x_thenX (x_blkY rfl (x_thenX (x_blkY rfl (x_thenX (x_blkX (x_then ?_))))))))
                                    rw [if_neg (fun q => by have q1 := q.1; rw [hcq] at q1; cases q1; exact hg157 rfl)] at hA
                                    exact ⟨14, twk (notQ 34) s (en + 1) + 1, ⟨hT0, fun hk => by rw [hA]; rfl, fun hk => absurd (by rw [hA]) hk⟩, hL, by rw [hA]; exact h9, kp _ ⟨rfl, rfl, rfl, rfl, rfl, rfl, rfl, trivial⟩⟩
                                · try simp only [decide_eq_true_eq, decide_eq_false_iff_not, Bool.not_eq_true', Bool.not_eq_false', Bool.not_eq_eq_eq_not, Bool.not_true, Bool.not_false, beq_iff_eq, bne_iff_ne, ne_eq, beq_eq_false_iff_ne, bne_eq_false_iff_eq, gt_iff_lt, ge_iff_le, Int.not_lt, Int.not_le] at hg150
                                  refine wlg_no rfl ?_
                                  refine wlg_no rfl ?_
                                  refine wlg_no rfl ?_
                                  refine wlg_no rfl ?_
                                  refine wlg_no rfl ?_
                                  refine wl (ro_pick rfl rfl rfl) ?_
                                  refine wl (ro_move rfl) ?_
                                  refine wlg_no rfl ?_
                                  refine wlg_no rfl ?_
                                  refine wlg_no rfl ?_
                                  refine wlg_no rfl ?_
                                  refine wlg_no rfl ?_
                                  refine wl (ro_pick rfl rfl rfl) ?_
                                  refine wl_nil (x_then (hK57 _ _ ?_))
                                  clear hK57 K57
                                  refine wc_condF rfl ?_
                                  refine c_skip (x_then (hK55 _ _ ?_))
                                  clear hK55 K55
                                  refine c_exit (x_blkY rfl (x_thenX (x_blkY rfl (x_thenX (x_blkY rfl (x_thenX (x_blkX (x_then ?_))))))))
                                  rw [if_neg (fun q => by have := (List.getElem?_eq_some_iff.1 q.1).1; omega)] at hA
                                  exact ⟨14, twk (notQ 34) s (en + 1) + 1, ⟨hT0, fun hk => by rw [hA]; rfl, fun hk => absurd (by rw [hA]) hk⟩, hL, by rw [hA]; exact h9, kp _ ⟨rfl, rfl, rfl, rfl, rfl, rfl, rfl, trivial⟩⟩
                              · try simp only [decide_eq_true_eq, decide_eq_false_iff_not, Bool.not_eq_true', Bool.not_eq_false', Bool.not_eq_eq_eq_not, Bool.not_true, Bool.not_false, beq_iff_eq, bne_iff_ne, ne_eq, beq_eq_false_iff_ne, bne_eq_false_iff_eq, gt_iff_lt, ge_iff_le, Int.not_lt, Int.not_le] at hc75
                                refine c_skip (x_then (hK53 _ _ ?_))
                                clear hK53 K53
                                refine c_seq (fun K59 hK59 => ?_)
                                refine c_seq (fun K60 hK60 => ?_)
                                have hn34 : c ≠ 34 := fun e => by
                                  have : c.toNat = 34 := by rw [e]; rfl
                                  omega
                                have hA := tok_sgn (s := s) (p := en) hnl hnd hn34
                                refine c_reg ?_ -- region 16 lex.go:98
                                refine wl (ro_move rfl) ?_
                                refine wl (ro_cmp rfl rfl rfl) ?_
                                refine wl_fork rfl (fun hg81 => ?_) (fun hg81 => ?_)
                                · try simp only [decide_eq_true_eq, decide_eq_false_iff_not, Bool.not_eq_true', Bool.not_eq_false', Bool.not_eq_eq_eq_not, Bool.not_true, Bool.not_false, beq_iff_eq, bne_iff_ne, ne_eq, beq_eq_false_iff_ne, bne_eq_false_iff_eq, gt_iff_lt, ge_iff_le, Int.not_lt, Int.not_le] at hg81
                                  refine wlg_no rfl ?_
                                  refine wlg_no rfl ?_
                                  refine wl (ro_pick rfl rfl rfl) ?_
                                  refine wl (ro_assign rfl) ?_
                                  refine wl_nil (x_then (hK60 _ _ ?_))
                                  clear hK60 K60
                                  refine wc_condT rfl ?_
                                  refine c_exit (x_thenX (x_thenX (x_blkY rfl (x_thenX (x_blkY rfl (x_thenX (x_blkY rfl (x_thenX (x_blkY rfl (x_thenX (x_blkY rfl (x_thenX (x_blkX (x_then (hK16 _ _ ?_)))))))))))))))
                                  clear hK59 K59 hK22 K22 hK21 K21 hK20 K20 hK19 K19 hK18 K18 hK17 K17 hK16 K16
                                  refine c_reg ?_ -- region 32 lex.go:99
                                  refine wl (ro_move rfl) ?_
                                  refine wl (ro_conv rfl sc_21 in_5 (Go.IntWalk.u8_in _ (by omega))) ?_
                                  refine wl (ro_assign rfl) ?_
                                  refine wl_nil (x_blk (x_then ?_))
                                  exact ⟨c, hlo, hlo, hz1, hT0, twoC_dbl (by omega), hA, hL, h9, kp _ ⟨rfl, rfl, rfl, rfl, rfl, rfl, rfl, rfl, rfl, rfl, trivial⟩⟩
                                · try simp only [decide_eq_true_eq, decide_eq_false_iff_not, Bool.not_eq_true', Bool.not_eq_false', Bool.not_eq_eq_eq_not, Bool.not_true, Bool.not_false, beq_iff_eq, bne_iff_ne, ne_eq, beq_eq_false_iff_ne, bne_eq_false_iff_eq, gt_iff_lt, ge_iff_le, Int.not_lt, Int.not_le] at hg81
                                  refine wlg_yes rfl (ro_move rfl) ?_
                                  refine wlg_yes rfl (ro_cmp rfl rfl rfl) ?_
                                  refine wl (ro_pick rfl rfl rfl) ?_
                                  refine wl (ro_assign rfl) ?_
                                  refine wl_nil (x_then (hK60 _ _ ?_))
                                  clear hK60 K60
                                  refine wc_cond rfl (fun hc78 => ?_) (fun hc78 => ?_)
                                  · try simp only [decide_eq_true_eq, decide_eq_false_iff_not, Bool.not_eq_true', Bool.not_eq_false', Bool.not_eq_eq_eq_not, Bool.not_true, Bool.not_false, beq_iff_eq, bne_iff_ne, ne_eq, beq_eq_false_iff_ne, bne_eq_false_iff_eq, gt_iff_lt, ge_iff_le, Int.not_lt, Int.not_le] at hc78
                                    refine c_exit (x_thenX (x_thenX (x_blkY rfl (x_thenX (x_blkY rfl (x_thenX (x_blkY rfl (x_thenX (x_blkY rfl (x_thenX (x_blkY rfl (x_thenX (x_blkX (x_then (hK16 _ _ ?_)))))))))))))))
                                    clear hK59 K59 hK22 K22 hK21 K21 hK20 K20 hK19 K19 hK18 K18 hK17 K17 hK16 K16
                                    refine c_reg ?_ -- region 32 lex.go:99
                                    refine wl (ro_move rfl) ?_
                                    refine wl (ro_conv rfl sc_21 in_5 (Go.IntWalk.u8_in _ (by omega))) ?_
                                    refine wl (ro_assign rfl) ?_
                                    refine wl_nil (x_blk (x_then ?_))
                                    exact ⟨c, hlo, hlo, hz1, hT0, twoC_dbl (by omega), hA, hL, h9, kp _ ⟨rfl, rfl, rfl, rfl, rfl, rfl, rfl, rfl, rfl, rfl, trivial⟩⟩
                                  · try simp only [decide_eq_true_eq, decide_eq_false_iff_not, Bool.not_eq_true', Bool.not_eq_false', Bool.not_eq_eq_eq_not, Bool.not_true, Bool.not_false, beq_iff_eq, bne_iff_ne, ne_eq, beq_eq_false_iff_ne, bne_eq_false_iff_eq, gt_iff_lt, ge_iff_le, Int.not_lt, Int.not_le] at hc78
                                    refine c_skip (x_then (hK59 _ _ ?_))
                                    clear hK59 K59
                                    refine forget [(0, _), (1, _), (4, _), (5, _), (6, _), (7, _), (8, _), (9, _), (10, _), (11, _), (21, _), (39, _), (40, _), (43, _), (44, _), (47, _), (48, _), (82, _), (83, _)] ⟨rfl, rfl, rfl, rfl, rfl, rfl, rfl, rfl, rfl, rfl, rfl, rfl, rfl, rfl, rfl, rfl, rfl, rfl, rfl, trivial⟩ (fun e => ?_)
                                    refine c_seq (fun K61 hK61 => ?_)
                                    refine c_reg ?_ -- region 17 lex.go:101
                                    refine wl (ro_move rfl) ?_
                                    refine wl (ro_cmp rfl rfl rfl) ?_
                                    refine wl_fork rfl (fun hg88 => ?_) (fun hg88 => ?_)
                                    · try simp only [decide_eq_true_eq, decide_eq_false_iff_not, Bool.not_eq_true', Bool.not_eq_false', Bool.not_eq_eq_eq_not, Bool.not_true, Bool.not_false, beq_iff_eq, bne_iff_ne, ne_eq, beq_eq_false_iff_ne, bne_eq_false_iff_eq, gt_iff_lt, ge_iff_le, Int.not_lt, Int.not_le] at hg88
                                      refine wlg_no rfl ?_
                                      refine wlg_no rfl ?_
                                      refine wl (ro_pick rfl rfl rfl) ?_
                                      refine wl (ro_move rfl) ?_
                                      refine wlg_no rfl ?_
                                      refine wlg_no rfl ?_
                                      refine wl (ro_pick rfl rfl rfl) ?_
                                      refine wl (ro_move rfl) ?_
                                      refine wlg_no rfl ?_
                                      refine wlg_no rfl ?_
                                      refine wl (ro_pick rfl rfl rfl) ?_
                                      refine wl (ro_assign rfl) ?_
                                      refine wl_nil (x_then (hK61 _ _ ?_))
                                      clear hK61 K61
                                      refine wc_condT rfl ?_
                                      refine c_exit (x_thenX (x_blkY rfl (x_thenX (x_blkY rfl (x_thenX (x_blkY rfl (x_thenX (x_blkY rfl (x_thenX (x_blkY rfl (x_thenX (x_blkY rfl (x_thenX (x_blkX (x_then ?_)))))))))))))))
                                      exact ⟨61, hlo, by decide, hz1, hT0, twoC_eq (by omega), hA, hL, h9, kp _ ⟨rfl, rfl, rfl, rfl, rfl, rfl, rfl, rfl, rfl, rfl, trivial⟩⟩
                                    · try simp only [decide_eq_true_eq, decide_eq_false_iff_not, Bool.not_eq_true', Bool.not_eq_false', Bool.not_eq_eq_eq_not, Bool.not_true, Bool.not_false, beq_iff_eq, bne_iff_ne, ne_eq, beq_eq_false_iff_ne, bne_eq_false_iff_eq, gt_iff_lt, ge_iff_le, Int.not_lt, Int.not_le] at hg88
                                      refine wlg_yes rfl (ro_move rfl) ?_
                                      refine wlg_yes rfl (ro_cmp rfl rfl rfl) ?_
                                      refine wl (ro_pick rfl rfl rfl) ?_
                                      refine wl_fork rfl (fun hg92 => ?_) (fun hg92 => ?_)
                                      · try simp only [decide_eq_true_eq, decide_eq_false_iff_not, Bool.not_eq_true', Bool.not_eq_false', Bool.not_eq_eq_eq_not, Bool.not_true, Bool.not_false, beq_iff_eq, bne_iff_ne, ne_eq, beq_eq_false_iff_ne, bne_eq_false_iff_eq, gt_iff_lt, ge_iff_le, Int.not_lt, Int.not_le] at hg92
                                        refine wlg_no rfl ?_
                                        refine wlg_no rfl ?_
                                        refine wl (ro_pick rfl rfl rfl) ?_
                                        refine wl (ro_move rfl) ?_
                                        refine wlg_no rfl ?_
                                        refine wlg_no rfl ?_
                                        refine wl (ro_pick rfl rfl rfl) ?_
                                        refine wl (ro_assign rfl) ?_
                                        refine wl_nil (x_then (hK61 _ _ ?_))
                                        clear hK61 K61
                                        refine wc_condT rfl ?_
                                        refine c_exit (x_thenX (x_blkY rfl (x_thenX (x_blkY rfl (x_thenX (x_blkY rfl (x_thenX (x_blkY rfl (x_thenX (x_blkY rfl (x_thenX (x_blkY rfl (x_thenX (x_blkX (x_then ?_)))))))))))))))
                                        exact ⟨61, hlo, by decide, hz1, hT0, twoC_eq (by omega), hA, hL, h9, kp _ ⟨rfl, rfl, rfl, rfl, rfl, rfl, rfl, rfl, rfl, rfl, trivial⟩⟩
                                      · try simp only [decide_eq_true_eq, decide_eq_false_iff_not, Bool.not_eq_true', Bool.not_eq_false', Bool.not_eq_eq_eq_not, Bool.not_true, Bool.not_false, beq_iff_eq, bne_iff_ne, ne_eq, beq_eq_false_iff_ne, bne_eq_false_iff_eq, gt_iff_lt, ge_iff_le, Int.not_lt, Int.not_le] at hg92
                                        refine wlg_yes rfl (ro_move rfl) ?_
                                        refine wlg_yes rfl (ro_cmp rfl rfl rfl) ?_
                                        refine wl (ro_pick rfl rfl rfl) ?_
                                        refine wl_fork rfl (fun hg96 => ?_) (fun hg96 => ?_)
                                        · try simp only [decide_eq_true_eq, decide_eq_false_iff_not, Bool.not_eq_true', Bool.not_eq_false', Bool.not_eq_eq_eq_not, Bool.not_true, Bool.not_false, beq_iff_eq, bne_iff_ne, ne_eq, beq_eq_false_iff_ne, bne_eq_false_iff_eq, gt_iff_lt, ge_iff_le, Int.not_lt, Int.not_le] at hg96
                                          refine wlg_no rfl ?_
                                          refine wlg_no rfl ?_
                                          refine wl (ro_pick rfl rfl rfl) ?_
                                          refine wl (ro_assign rfl) ?_
                                          refine wl_nil (x_then (hK61 _ _ ?_))
                                          clear hK61 K61
                                          refine wc_condT rfl ?_
                                          refine c_exit (x_thenX (x_blkY rfl (x_thenX (x_blkY rfl (x_thenX (x_blkY rfl (x_thenX (x_blkY rfl (x_thenX (x_blkY rfl (x_thenX (x_blkY rfl (x_thenX (x_blkX (x_then ?_)))))))))))))))
                                          exact ⟨61, hlo, by decide, hz1, hT0, twoC_eq (by omega), hA, hL, h9, kp _ ⟨rfl, rfl, rfl, rfl, rfl, rfl, rfl, rfl, rfl, rfl, trivial⟩⟩
                                        · try simp only [decide_eq_true_eq, decide_eq_false_iff_not, Bool.not_eq_true', Bool.not_eq_false', Bool.not_eq_eq_eq_not, Bool.not_true, Bool.not_false, beq_iff_eq, bne_iff_ne, ne_eq, beq_eq_false_iff_ne, bne_eq_false_iff_eq, gt_iff_lt, ge_iff_le, Int.not_lt, Int.not_le] at hg96
                                          refine wlg_yes rfl (ro_move rfl) ?_
                                          refine wlg_yes rfl (ro_cmp rfl rfl rfl) ?_
                                          refine wl (ro_pick rfl rfl rfl) ?_
                                          refine wl (ro_assign rfl) ?_
                                          refine wl_nil (x_then (hK61 _ _ ?_))
                                          clear hK61 K61
                                          refine wc_cond rfl (fun hc85 => ?_) (fun hc85 => ?_)
                                          · try simp only [decide_eq_true_eq, decide_eq_false_iff_not, Bool.not_eq_true', Bool.not_eq_false', Bool.not_eq_eq_eq_not, Bool.not_true, Bool.not_false, beq_iff_eq, bne_iff_ne, ne_eq, beq_eq_false_iff_ne, bne_eq_false_iff_eq, gt_iff_lt, ge_iff_le, Int.not_lt, Int.not_le] at hc85
                                            refine c_exit (x_thenX (x_blkY rfl (x_thenX (x_blkY rfl (x_thenX (x_blkY rfl (x_thenX (x_blkY rfl (x_thenX (x_blkY rfl (x_thenX (x_blkY rfl (x_thenX (x_blkX (x_then ?_)))))))))))))))
                                            exact ⟨61, hlo, by decide, hz1, hT0, twoC_eq (by omega), hA, hL, h9, kp _ ⟨rfl, rfl, rfl, rfl, rfl, rfl, rfl, rfl, rfl, rfl, trivial⟩⟩
                                          · try simp only [decide_eq_true_eq, decide_eq_false_iff_not, Bool.not_eq_true', Bool.not_eq_false', Bool.not_eq_eq_eq_not, Bool.not_true, Bool.not_false, beq_iff_eq, bne_iff_ne, ne_eq, beq_eq_false_iff_ne, bne_eq_false_iff_eq, gt_iff_lt, ge_iff_le, Int.not_lt, Int.not_le] at hc85
                                            refine c_skip (x_then (hK22 _ _ ?_))
                                            clear hK22 K22
                                            refine c_exit (x_blkY rfl (x_thenX (x_blkY rfl (x_thenX (x_blkY rfl (x_thenX (x_blkY rfl (x_thenX (x_blkY rfl (x_thenX (x_blkY rfl (x_thenX (x_blkY rfl (x_thenX (x_blkX (x_then ?_))))))))))))))))
                                            rw [twoC_no' (twoC_no (c := c) (by omega))] at hA
                                            exact ⟨[c], en + 1, ⟨hT0, by rw [hA]; rfl, fun _ => ⟨by rw [hA]; rfl, by omega, .inr ⟨by omega, .inl (by omega)⟩⟩⟩, hL, h9, kp _ ⟨rfl, rfl, rfl, rfl, rfl, rfl, rfl, rfl, trivial⟩⟩
                clear hF hX h5 hL h9
                rintro a' u3 ⟨tw, hlo', htlo, hz', hT0, htw, hA, hL, h9, e, rfl⟩
                have hX := hL.blkN hX2
                have h5 := hL.blkN h52
                have hF := hF2.thenN hL
                refine c_seq (fun K62 hK62 => ?_)
                refine c_reg ?_ -- region 33 lex.go:102
                refine wl (ro_move rfl) ?_
                refine wl (ro_move rfl) ?_
                refine wl (ro_lenS rfl st_9) ?_
                refine wl (ro_cmp rfl rfl rfl) ?_
                refine wl_fork rfl (fun hg178 => ?_) (fun hg178 => ?_)
                · try simp only [decide_eq_true_eq, decide_eq_false_iff_not, Bool.not_eq_true', Bool.not_eq_false', Bool.not_eq_eq_eq_not, Bool.not_true, Bool.not_false, beq_iff_eq, bne_iff_ne, ne_eq, beq_eq_false_iff_ne, bne_eq_false_iff_eq, gt_iff_lt, ge_iff_le, Int.not_lt, Int.not_le] at hg178
                  obtain ⟨c1, hc1⟩ : ∃ c1, s[en + 1]? = some c1 := ⟨_, List.getElem?_eq_getElem (by omega)⟩
                  refine wlg_yes rfl (ro_move rfl) ?_
                  refine wlg_yes rfl (ro_move rfl) ?_
                  refine wlg_yes rfl (ro_indexS rfl rfl st_9 rfl (hc1)) ?_
                  refine wlg_yes rfl (ro_move rfl) ?_
                  refine wlg_yes rfl (ro_cmp rfl rfl rfl) ?_
                  refine wl (ro_pick rfl rfl rfl) ?_
                  refine wl_nil (x_then (hK62 _ _ ?_))
                  clear hK62 K62
                  refine wc_cond rfl (fun hc184 => ?_) (fun hc184 => ?_)
                  · try simp only [decide_eq_true_eq, decide_eq_false_iff_not, Bool.not_eq_true', Bool.not_eq_false', Bool.not_eq_eq_eq_not, Bool.not_true, Bool.not_false, beq_iff_eq, bne_iff_ne, ne_eq, beq_eq_false_iff_ne, bne_eq_false_iff_eq, gt_iff_lt, ge_iff_le, Int.not_lt, Int.not_le] at hc184
                    refine c_seq (fun K63 hK63 => ?_)
                    refine c_reg ?_ -- region 34 lex.go:103
                    refine wl (ro_move rfl) ?_
                    refine wl (ro_arith rfl rfl rfl (Go.IntWalk.i64_in _ (by omega))) ?_
                    refine wl (ro_assign rfl) ?_
                    refine wl_nil (x_then (hK63 _ _ ?_))
                    clear hK63 K63
                    refine c_reg ?_ -- region 35 lex.go:104
                    refine wl (ro_move rfl) ?_
                    refine wl (ro_move rfl) ?_
                    refine wl (ro_move rfl) ?_
                    refine wl (ro_sliceSLH (l := en) (h := en + 2) rfl rfl rfl st_9 rfl rfl (by omega) (by omega)) ?_
                    refine wl (ro_assign rfl) ?_
                    refine wl_nil (x_blk (x_then ?_))
                    have hd1 : c1 = tw := UInt8.toNat_inj.1 (by omega)
                    have hw1 : sgnW s en c = [c, c1] := by unfold sgnW; rw [hc1]; simp only; rw [if_pos (by rw [htw]; exact decide_eq_true hd1)]
                    have hsl : (s.drop en).take (en + 2 - en) = [c, c1] := by rw [Nat.add_sub_cancel_left, drop_cons hc0, drop_cons hc1]; rfl
                    rw [hw1] at hA
                    rw [hsl]
                    exact ⟨[c, c1], en + 2, ⟨hT0, by rw [hA], fun _ => ⟨by rw [hA]; rfl, by omega, Rch.last (c := c1) hc1 (by rw [hd1]; exact htlo) (by omega) (by omega)⟩⟩, hL, h9, kp _ ⟨rfl, rfl, rfl, rfl, rfl, rfl, rfl, rfl, trivial⟩⟩
                  · try simp only [decide_eq_true_eq, decide_eq_false_iff_not, Bool.not_eq_true', Bool.not_eq_false', Bool.not_eq_eq_eq_not, Bool.not_true, Bool.not_false, beq_iff_eq, bne_iff_ne, ne_eq, beq_eq_false_iff_ne, bne_eq_false_iff_eq, gt_iff_lt, ge_iff_le, Int.not_lt, Int.not_le] at hc184
                    refine c_skip (x_blk (x_then ?_))
                    have hd1 : c1 ≠ tw := fun h => by subst h; exact hc184 rfl
                    have hw1 : sgnW s en c = [c] := by unfold sgnW; rw [hc1]; simp only; rw [if_neg (by rw [htw]; simpa using hd1)]
                    rw [hw1] at hA
                    exact ⟨[c], en + 1, ⟨hT0, by rw [hA], fun _ => ⟨by rw [hA]; rfl, by omega, .inr ⟨by omega, .inl (by omega)⟩⟩⟩, hL, h9, kp _ ⟨rfl, rfl, rfl, rfl, rfl, rfl, rfl, rfl, trivial⟩⟩
                · try simp only [decide_eq_true_eq, decide_eq_false_iff_not, Bool.not_eq_true', Bool.not_eq_false', Bool.not_eq_eq_eq_not, Bool.not_true, Bool.not_false, beq_iff_eq, bne_iff_ne, ne_eq, beq_eq_false_iff_ne, bne_eq_false_iff_eq, gt_iff_lt, ge_iff_le, Int.not_lt, Int.not_le] at hg178
                  refine wlg_no rfl ?_
                  refine wlg_no rfl ?_
                  refine wlg_no rfl ?_
                  refine wlg_no rfl ?_
                  refine wlg_no rfl ?_
                  refine wl (ro_pick rfl rfl rfl) ?_
                  refine wl_nil (x_then (hK62 _ _ ?_))
                  clear hK62 K62
                  refine wc_condF rfl ?_
                  refine c_skip (x_blk (x_then ?_))
                  have hw1 : sgnW s en c = [c] := by unfold sgnW; rw [List.getElem?_eq_none (by omega)]
                  rw [hw1] at hA
                  exact ⟨[c], en + 1, ⟨hT0, by rw [hA], fun _ => ⟨by rw [hA]; rfl, by omega, .inr ⟨by omega, .inl (by omega)⟩⟩⟩, hL, h9, kp _ ⟨rfl, rfl, rfl, rfl, rfl, rfl, rfl, rfl, trivial⟩⟩
              clear hF hX h5 hL h9
              rintro a' u3 ⟨wd, en', hE, hL, h9, e, rfl⟩
              have hX := hL.blkN hX2
              have h5 := hL.blkN h52
              have hF := hF2.thenN hL
              refine c_seq (fun K64 hK64 => ?_)
              refine c_seq (fun K65 hK65 => ?_)
              refine c_reg ?_ -- region 36 lex.go:108
              refine wl (ro_move rfl) ?_
              refine wl_call rfl en_133 (sign133 (hGf hF)) ?_
              rintro _ u0 ⟨rfl, hw0⟩
              rw [hw0]
              clear hw0 u0
              refine wl (ro_fieldAddr (k := 0) rfl fo_182_0) ?_
              refine wl_put rfl rfl rfl sz_180 h9 (by simp) (rfl) (fun w16 h9 F16 => ?_)
              replace hF := hF.thenDrew.thenO F16 (by first | exact .inr (by omega) | exact .inl rfl | exact .inl (by assumption) | assumption)
              replace hX := F16.blkO hX (by omega)
              replace h5 := F16.blkO h5 (by omega)
              replace hL := hL.thenDrew.thenO F16 (by first | exact .inr (by omega) | exact .inl rfl | exact .inl (by assumption) | assumption)
              refine wl_nil (x_then (hK65 _ _ ?_))
              clear hK65 K65
              refine c_reg ?_ -- region 37 lex.go:109
              refine wl (ro_fieldAddr (k := 4) rfl fo_182_4) ?_
              refine wl_put rfl rfl rfl sz_54 h9 (by simp) (rfl) (fun w17 h9 F17 => ?_)
              replace hF := hF.thenDrew.thenO F17 (by first | exact .inr (by omega) | exact .inl rfl | exact .inl (by assumption) | assumption)
              replace hX := F17.blkO hX (by omega)
              replace h5 := F17.blkO h5 (by omega)
              replace hL := hL.thenDrew.thenO F17 (by first | exact .inr (by omega) | exact .inl rfl | exact .inl (by assumption) | assumption)
              refine wl_nil (x_then (hK64 _ _ ?_))
              clear hK64 K64
              refine c_exit (x_blkX (x_then ?_))
              refine ⟨13, en', ⟨hE.tf, fun hk => ?_, fun hk => ?_⟩, hL, ?_, kp _ ⟨rfl, rfl, rfl, rfl, rfl, rfl, rfl, trivial⟩⟩
              · rw [hE.tk] at hk ⊢; rw [(sgT_e wd en).1 hk]; rfl
              · have := hE.ok hk
                refine ⟨?_, this⟩
                rw [hE.tk] at hk ⊢
                exact (sgT_e wd en).2 hk
              · rw [hE.tk, sgT_k, sgT_s, sgT_n]; exact h9
            clear hF hX h5 hL h9
            rintro a' u3 ⟨e0, en', hE, hL, h9, e, rfl⟩
            have hM : Fram (one b5) u2 u3 := hL.mono (fun _ _ h => h.elim)
            have hX := hL.blkN hX2
            have h5 := hL.blkN h52
            have hF := hF2.thenN hL
            refine c_seq (fun K66 hK66 => ?_)
            refine c_seq (fun K67 hK67 => ?_)
            refine c_reg ?_ -- region 38 lex.go:111
            refine wl (ro_fieldAddr (k := 0) rfl fo_182_0) ?_
            refine wl (ro_loadB rfl sc_180 (by assumption) rfl) ?_
            refine wl (ro_cmp rfl rfl rfl) ?_
            refine wl_nil (x_then (hK67 _ _ ?_))
            clear hK67 K67
            refine wc_cond rfl (fun hc197 => ?_) (fun hc197 => ?_)
            · try simp only [decide_eq_true_eq, decide_eq_false_iff_not, Bool.not_eq_true', Bool.not_eq_false', Bool.not_eq_eq_eq_not, Bool.not_true, Bool.not_false, beq_iff_eq, bne_iff_ne, ne_eq, beq_eq_false_iff_ne, bne_eq_false_iff_eq, gt_iff_lt, ge_iff_le, Int.not_lt, Int.not_le] at hc197
              have hk1 : (tokAt c (s.drop (en + 1)) en).1.k = 1 := by omega
              have hU3 := hU2.fram hL (fun _ _ h => h)
              refine c_seq (fun K68 hK68 => ?_)
              refine c_reg ?_ -- region 39 lex.go:112
              refine wl (ro_loadAggB rfl ag_182 (by assumption) rfl rfl) ?_
              refine wl_puta rfl rfl ((by simp [Value.oneCell', i64c, icv, u64c, S])) sz_182 (rfl) h5 ((by simp [tkc])) (rfl) (fun w18 h5 F18 => ?_)
              replace hF := hF.thenDrew.thenO F18 (by first | exact .inr (by omega) | exact .inl rfl | exact .inl (by assumption) | assumption)
              replace hX := F18.blkO hX (by omega)
              replace hM := hM.thenDrew.thenO F18 (by first | exact .inr (by omega) | exact .inl rfl | exact .inl (by assumption) | assumption)
              replace h9 := F18.blkO h9 (by omega)
              refine wl_nil (x_then (hK68 _ _ ?_))
              clear hK68 K68
              refine c_exit (x_thenX (x_blkY rfl (x_thenX (x_blkX (x_then ?_)))))
              refine ⟨acc, (tokAt c (s.drop (en + 1)) en).1, U, by rw [htk, hE.tf, if_pos hk1], by omega, ⟨hF, hX, ?_, hU2.fram hM (fun b hb he => n5 (he ▸ hb)), n5, nt⟩, kp _ ⟨rfl, rfl, rfl, trivial⟩⟩
              have hb := hE.bad hk1
              unfold tkc
              rw [tokAt_pl]
              rw [hb] at h5
              exact h5
            · try simp only [decide_eq_true_eq, decide_eq_false_iff_not, Bool.not_eq_true', Bool.not_eq_false', Bool.not_eq_eq_eq_not, Bool.not_true, Bool.not_false, beq_iff_eq, bne_iff_ne, ne_eq, beq_eq_false_iff_ne, bne_eq_false_iff_eq, gt_iff_lt, ge_iff_le, Int.not_lt, Int.not_le] at hc197
              refine c_skip (x_then (hK66 _ _ ?_))
              clear hK66 K66
              refine forget [(0, _), (1, _), (4, _), (5, _), (6, _), (9, _), (21, _)] ⟨rfl, rfl, rfl, rfl, rfl, rfl, rfl, trivial⟩ (fun e => ?_)
              refine c_seq (fun K69 hK69 => ?_)
              refine c_reg ?_ -- region 40 lex.go:115
              refine wl (ro_fieldAddr (k := 4) rfl fo_182_4) ?_
              refine wl_put rfl rfl rfl sz_54 h9 (by simp) (rfl) (fun w19 h9 F19 => ?_)
              replace hF := hF.thenDrew.thenO F19 (by first | exact .inr (by omega) | exact .inl rfl | exact .inl (by assumption) | assumption)
              replace hX := F19.blkO hX (by omega)
              replace h5 := F19.blkO h5 (by omega)
              replace hL := hL.thenDrew.thenO F19 (by first | exact .inr (by omega) | exact .inl rfl | exact .inl (by assumption) | assumption)
              replace hM := hM.thenDrew.thenO F19 (by first | exact .inr (by omega) | exact .inl rfl | exact .inl (by assumption) | assumption)
              refine wl_nil (x_then (hK69 _ _ ?_))
              clear hK69 K69
              refine c_reg ?_ -- region 41 lex.go:116
              refine wl (ro_move rfl) ?_
              refine wl (ro_loadAggB rfl ag_182 (by assumption) rfl rfl) ?_
              refine wl_bsapp (t := 76) (et := 182) (k := 5) (cs := [i64c (tokAt c (s.drop (en + 1)) en).1.k, i64c en, S (tokAt c (s.drop (en + 1)) en).1.s, u64c (tokAt c (s.drop (en + 1)) en).1.n, i64c 0]) rfl rfl rfl rfl se_76 zx_182 by_182 rfl rfl rfl (by simp [Value.oneCell', i64c, u64c, S]) (hU2.fram hL (fun _ _ h => h)) (by omega) (by omega) ?_
              intro v' u5 hon G5 hnb
              have hU4 := hU2.fram hL (fun _ _ h => h)
              have hI4 := hIt2.fram hL (fun h => h)
              replace hF := hF.trans' G5 (fun k hk q => .inr (nt k q hk))
              have hszw := hF2.thenN hL |>.size
              have hszu := hL.size
              have h5l := h5.lt
              replace hX := G5.blkF hX (hU4.neT hX (by decide))
              replace h5 := G5.blkF h5 n5
              have hI5 := hI4.fram G5 (hI4.own_ne hU4)
              have hk1 : (tokAt c (s.drop (en + 1)) en).1.k ≠ 1 := by omega
              obtain ⟨q1, q2, q3, q4⟩ := hE.ok hk1
              have hcs : [i64c (tokAt c (s.drop (en + 1)) en).1.k, i64c en, S (tokAt c (s.drop (en + 1)) en).1.s, u64c (tokAt c (s.drop (en + 1)) en).1.n, i64c 0] = tkc (tokAt c (s.drop (en + 1)) en).1 := by unfold tkc; rw [q1, tokAt_pl]
              rw [hcs, ← rws_one (enc := tkc), ← rws_app] at hon
              have hp1 := tokAt_pos c (s.drop (en + 1)) en
              skip
              refine wl (ro_assign rfl) ?_
              refine wl_nil (x_blk (x_then ?_))
              refine ⟨s.length - (en + z), by omega, en + z, en', acc ++ [(tokAt c (s.drop (en + 1)) en).1], v', rfl, q4, q3, by rw [htk, hE.tf, if_neg hk1, q2]; simp, by rw [List.length_append]; simp only [List.length_cons, List.length_nil]; omega, hI5, ⟨hF, hX, h5, ?_, fun hb => ?_, fun b hb hlt => ?_⟩, kp _ ⟨rfl, rfl, rfl, rfl, rfl, rfl, trivial⟩⟩
              · rw [List.length_append]; exact hon
              · rcases hnb _ hb with h | h
                · exact n5 h
                · omega
              · rcases hnb _ hb with h | h
                · exact nt b h hlt
                · omega
          · skip
            refine c_reg ?_ -- region 7 lex.go:69
            refine wl (ro_move rfl) ?_
            refine wl (ro_arith rfl rfl rfl (Go.IntWalk.i64_in _ (by omega))) ?_
            refine wl (ro_assign rfl) ?_
            refine wl_nil (x_then (hK12 _ _ ?_))
            clear hK12 K12
            refine forget [(0, _), (1, _), (4, _), (5, _), (6, _), (7, _), (8, _), (21, _)] ⟨rfl, rfl, rfl, rfl, rfl, rfl, rfl, rfl, trivial⟩ (fun e => ?_)
            refine c_seq (fun K70 hK70 => ?_)
            refine c_reg ?_ -- region 8 lex.go:70
            refine wl (ro_move rfl) ?_
            refine wl (ro_build rfl bld_182_0_1_4) ?_
            refine wl_new (ze_182) (fun b9 w20 hbb9 h9 F20 => ?_)
            have hbsb9 := Nat.le_trans hF.size hbb9
            have hnesbb9 : sb < b9 := Nat.lt_of_lt_of_le hX.lt hbb9
            have hneb5b9 : b5 < b9 := Nat.lt_of_lt_of_le h5.lt hbb9
            have hbsb9 := Nat.le_trans hL.size hbb9
            replace hF := hF.thenDrew.thenN F20
            replace hX := F20.blkN hX
            replace h5 := F20.blkN h5
            replace hL := hL.thenDrew.thenN F20
            refine wl_puta rfl rfl ((by (try exact vlc_cells _); all_goals simp [Value.oneCell', i64c, icv, u64c, u8c, ptr, S])) sz_182 (rfl) h9 ((by simp)) (rfl) (fun w21 h9 F21 => ?_)
            replace hF := hF.thenDrew.thenO F21 (by first | exact .inr (by omega) | exact .inl rfl | exact .inl (by assumption) | assumption)
            replace hX := F21.blkO hX (by omega)
            replace h5 := F21.blkO h5 (by omega)
            replace hL := hL.thenDrew.thenO F21 (by first | exact .inr (by omega) | exact .inl rfl | exact .inl (by assumption) | assumption)
            refine wl_nil (x_then (hK70 _ _ ?_))
            clear hK70 K70
            refine forget [(0, _), (1, _), (4, _), (5, _), (6, _), (7, _), (8, _), (9, _), (21, _)] ⟨rfl, rfl, rfl, rfl, rfl, rfl, rfl, rfl, rfl, trivial⟩ (fun e => ?_)
            refine c_seq (fun K71 hK71 => ?_)
            refine c_reg ?_ -- region 9 lex.go:71
            refine wl (ro_move rfl) ?_
            refine wl (ro_runeA (by omega) rfl sc_21 st_9) ?_
            refine wl (ro_assign rfl) ?_
            refine wl_nil (x_then (hK71 _ _ ?_))
            clear hK71 K71
            refine forget [(0, _), (1, _), (4, _), (5, _), (6, _), (7, _), (8, _), (9, _), (10, _), (21, _)] ⟨rfl, rfl, rfl, rfl, rfl, rfl, rfl, rfl, rfl, rfl, trivial⟩ (fun e => ?_)
            refine c_seq (fun K72 hK72 => ?_)
            refine c_reg ?_ -- region 10 lex.go:72
            refine wl (ro_assign rfl) ?_
            refine wl_nil (x_then (hK72 _ _ ?_))
            clear hK72 K72
            refine forget [(0, _), (1, _), (4, _), (5, _), (6, _), (7, _), (8, _), (9, _), (10, _), (11, _), (21, _)] ⟨rfl, rfl, rfl, rfl, rfl, rfl, rfl, rfl, rfl, rfl, rfl, trivial⟩ (fun e => ?_)
            refine c_mid (fun a' w' => ∃ (e0 : Int) (en' : Nat), ScE s en z (tokAt c (s.drop (en + 1)) en) e0 en' ∧ Fram none' u2 w' ∧ Blk w'.heap b9 [i64c (tokAt c (s.drop (en + 1)) en).1.k, i64c en, S (tokAt c (s.drop (en + 1)) en).1.s, u64c (tokAt c (s.drop (en + 1)) en).1.n, icv e0] 182 ∧ ∃ e, a' = Fr 211 (upds e [(0, ptr sb), (1, S s), (4, U), (5, ptr b5), (6, i64c en'), (9, ptr b9), (21, ptr ri)]) []) ?_ ?_
            · skip
              refine c_block ?_
              refine c_mid (fun a' w' => ∃ (wd : Str) (en' : Nat), SgE s en z (tokAt c (s.drop (en + 1)) en) wd en' ∧ Fram none' u2 w' ∧ Blk w'.heap b9 [i64c 1, i64c en, S [], u64c 0, icv 14] 182 ∧ ∃ e, a' = Fr 211 (upds e [(0, ptr sb), (1, S s), (4, U), (5, ptr b5), (6, i64c en'), (9, ptr b9), (10, S wd), (21, ptr ri)]) []) ?_ ?_
              · skip
                refine c_block ?_
                refine c_mid (fun a' w' => ∃ (tw : UInt8), c.toNat < 128 ∧ tw.toNat < 128 ∧ z = 1 ∧ tkF s en = (if (tokAt c (s.drop (en + 1)) en).1.k = 1 then [(tokAt c (s.drop (en + 1)) en).1] else (tokAt c (s.drop (en + 1)) en).1 :: tkF s (en + (tokAt c (s.drop (en + 1)) en).2)) ∧ (∀ d, twoC c d = decide (d = tw)) ∧ tokAt c (s.drop (en + 1)) en = (sgT (sgnW s en c) en, (sgnW s en c).length) ∧ Fram none' u2 w' ∧ Blk w'.heap b9 [i64c 1, i64c en, S [], u64c 0, icv 14] 182 ∧ ∃ e, a' = Fr 211 (upds e [(0, ptr sb), (1, S s), (4, U), (5, ptr b5), (6, i64c (en + 1)), (7, i64c en), (9, ptr b9), (10, S [c]), (11, u8c tw), (21, ptr ri)]) []) ?_ ?_
                · skip
                  refine c_block ?_
                  refine c_seq (fun K73 hK73 => ?_)
                  refine c_block ?_
                  refine c_seq (fun K74 hK74 => ?_)
                  refine c_block ?_
                  refine c_seq (fun K75 hK75 => ?_)
                  refine c_block ?_
                  refine c_seq (fun K76 hK76 => ?_)
                  refine c_block ?_
                  refine c_seq (fun K77 hK77 => ?_)
                  refine c_block ?_
                  refine c_seq (fun K78 hK78 => ?_)
                  refine c_block ?_
                  refine c_seq (fun K79 hK79 => ?_)
                  refine c_seq (fun K80 hK80 => ?_)
                  refine c_seq (fun K81 hK81 => ?_)
                  refine c_reg ?_ -- region 11 lex.go:74
                  refine wl (ro_move rfl) ?_
                  refine wl (ro_cmp (r := false) rfl rfl (congrArg some (beq_eq_false_iff_ne.2 (by omega)))) ?_
                  refine wl (ro_move rfl) ?_
                  refine wlg_yes rfl (ro_move rfl) ?_
                  refine wlg_yes rfl (ro_cmp (r := false) rfl rfl (congrArg some (beq_eq_false_iff_ne.2 (by omega)))) ?_
                  refine wl (ro_pick rfl rfl rfl) ?_
                  refine wl (ro_move rfl) ?_
                  refine wlg_yes rfl (ro_move rfl) ?_
                  refine wlg_yes rfl (ro_cmp (r := false) rfl rfl (congrArg some (beq_eq_false_iff_ne.2 (by omega)))) ?_
                  refine wl (ro_pick rfl rfl rfl) ?_
                  refine wl (ro_move rfl) ?_
                  refine wlg_yes rfl (ro_move rfl) ?_
                  refine wlg_yes rfl (ro_cmp (r := false) rfl rfl (congrArg some (beq_eq_false_iff_ne.2 (by omega)))) ?_
                  refine wl (ro_pick rfl rfl rfl) ?_
                  refine wl (ro_assign rfl) ?_
                  refine wl_nil (x_then (hK81 _ _ ?_))
                  clear hK81 K81
                  refine wc_condF rfl ?_
                  refine c_skip (x_then (hK80 _ _ ?_))
                  clear hK80 K80
                  refine c_seq (fun K82 hK82 => ?_)
                  refine c_seq (fun K83 hK83 => ?_)
                  refine c_reg ?_ -- region 12 lex.go:76
                  refine wl (ro_move rfl) ?_
                  refine wl (ro_cmp (r := true) rfl rfl (congrArg some (beq_iff_eq.2 (by omega)))) ?_
                  refine wl (ro_move rfl) ?_
                  refine wlg_yes rfl (ro_move rfl) ?_
                  refine wlg_yes rfl (ro_move rfl) ?_
                  refine wlg_yes rfl (ro_arith rfl rfl rfl (Go.IntWalk.i64_in _ (by omega))) ?_
                  refine wlg_yes rfl (ro_move rfl) ?_
                  refine wlg_yes rfl (ro_arith rfl rfl rfl (Go.IntWalk.i64_in _ (by omega))) ?_
                  refine wlg_yes rfl (ro_move rfl) ?_
                  refine wlg_yes rfl (ro_lenS rfl st_9) ?_
                  refine wlg_yes rfl (ro_min rfl rfl) ?_
                  refine wlg_yes rfl (ro_sliceSLH (l := en + 1) (h := min (en + 2) s.length) rfl rfl rfl st_9 (by omega) (by omega) (by omega) (by omega)) ?_
                  refine wlg_yes rfl (ro_eqS (m := [45]) (r := true) rfl rfl (congrArg some (beq_iff_eq.2 (cm_yes h45)))) ?_
                  refine wl (ro_pick rfl rfl rfl) ?_
                  refine wl (ro_assign rfl) ?_
                  refine wl_nil (x_then (hK83 _ _ ?_))
                  clear hK83 K83
                  refine wc_condT rfl ?_
                  refine c_exit (x_thenX (x_thenX (x_blkY rfl (x_thenX (x_blkX (x_then (hK77 _ _ ?_)))))))
                  clear hK82 K82 hK79 K79 hK78 K78 hK77 K77
                  refine c_seq (fun K84 hK84 => ?_)
                  refine c_seq (fun K85 hK85 => ?_)
                  refine c_reg ?_ -- region 18 lex.go:77
                  refine wl (ro_move rfl) ?_
                  refine wl (ro_move rfl) ?_
                  refine wl_call rfl en_127 (until127 (q := 10) (i := en) (by omega) (by omega)) ?_
                  rintro _ u0 ⟨rfl, hw0⟩
                  rw [hw0]
                  clear hw0 u0
                  refine wl (ro_assign rfl) ?_
                  refine wl_nil (x_then (hK85 _ _ ?_))
                  clear hK85 K85
                  refine c_exit (x_thenX (x_blkY rfl (x_thenX (x_blkY rfl (x_thenX (x_blkY rfl (x_thenX (x_blkY rfl (x_thenX (x_blkY rfl (x_thenX (x_blkY rfl (x_thenX (x_blkY rfl (x_thenX (x_blkX (x_then ?_)))))))))))))))))
                  have hc45 : s[en]? = some 45 := by rw [hc0]; exact congrArg some ((u8_beq c 45 (by decide)).2 (by omega))
                  have hw := twk_gt (p := notQ 10) hc45 (by decide)
                  refine ⟨s.length - (en + z), by omega, en + z, twk (notQ 10) s en, acc, U, rfl, ?_, hw.2, by rw [htk, tkF_cm hc45 h45], by omega, hIt2.fram hL (fun h => h), ⟨hF, hX, h5, hU2.fram hL (fun _ _ h => h), n5, nt⟩, kp _ ⟨rfl, rfl, rfl, rfl, rfl, rfl, trivial⟩⟩
                  rcases Nat.lt_or_ge (twk (notQ 10) s en) s.length with q | q
                  · obtain ⟨cq, hcq, hnq⟩ := twk_at _ en (Nat.le_refl _) (by omega) q
                    refine .inr ⟨by omega, .inr (.inl ⟨cq, hcq, ?_⟩)⟩
                    unfold notQ at hnq
                    by_cases hq10 : cq = 10
                    · rw [hq10]; decide
                    · simp [hq10] at hnq
                  · exact .inl q
                clear hF hX h5 hL h9
                rintro a' u3 ⟨tw, hlo', htlo, hz', hT0, htw, hA, hL, h9, e, rfl⟩
                have hX := hL.blkN hX2
                have h5 := hL.blkN h52
                have hF := hF2.thenN hL
                refine c_seq (fun K86 hK86 => ?_)
                refine c_reg ?_ -- region 33 lex.go:102
                refine wl (ro_move rfl) ?_
                refine wl (ro_move rfl) ?_
                refine wl (ro_lenS rfl st_9) ?_
                refine wl (ro_cmp rfl rfl rfl) ?_
                refine wl_fork rfl (fun hg178 => ?_) (fun hg178 => ?_)
                · try simp only [decide_eq_true_eq, decide_eq_false_iff_not, Bool.not_eq_true', Bool.not_eq_false', Bool.not_eq_eq_eq_not, Bool.not_true, Bool.not_false, beq_iff_eq, bne_iff_ne, ne_eq, beq_eq_false_iff_ne, bne_eq_false_iff_eq, gt_iff_lt, ge_iff_le, Int.not_lt, Int.not_le] at hg178
                  obtain ⟨c1, hc1⟩ : ∃ c1, s[en + 1]? = some c1 := ⟨_, List.getElem?_eq_getElem (by omega)⟩
                  refine wlg_yes rfl (ro_move rfl) ?_
                  refine wlg_yes rfl (ro_move rfl) ?_
                  refine wlg_yes rfl (ro_indexS rfl rfl st_9 rfl (hc1)) ?_
                  refine wlg_yes rfl (ro_move rfl) ?_
                  refine wlg_yes rfl (ro_cmp rfl rfl rfl) ?_
                  refine wl (ro_pick rfl rfl rfl) ?_
                  refine wl_nil (x_then (hK86 _ _ ?_))
                  clear hK86 K86
                  refine wc_cond rfl (fun hc184 => ?_) (fun hc184 => ?_)
                  · try simp only [decide_eq_true_eq, decide_eq_false_iff_not, Bool.not_eq_true', Bool.not_eq_false', Bool.not_eq_eq_eq_not, Bool.not_true, Bool.not_false, beq_iff_eq, bne_iff_ne, ne_eq, beq_eq_false_iff_ne, bne_eq_false_iff_eq, gt_iff_lt, ge_iff_le, Int.not_lt, Int.not_le] at hc184
                    refine c_seq (fun K87 hK87 => ?_)
                    refine c_reg ?_ -- region 34 lex.go:103
                    refine wl (ro_move rfl) ?_
                    refine wl (ro_arith rfl rfl rfl (Go.IntWalk.i64_in _ (by omega))) ?_
                    refine wl (ro_assign rfl) ?_
                    refine wl_nil (x_then (hK87 _ _ ?_))
                    clear hK87 K87
                    refine c_reg ?_ -- region 35 lex.go:104
                    refine wl (ro_move rfl) ?_
                    refine wl (ro_move rfl) ?_
                    refine wl (ro_move rfl) ?_
                    refine wl (ro_sliceSLH (l := en) (h := en + 2) rfl rfl rfl st_9 rfl rfl (by omega) (by omega)) ?_
                    refine wl (ro_assign rfl) ?_
                    refine wl_nil (x_blk (x_then ?_))
                    have hd1 : c1 = tw := UInt8.toNat_inj.1 (by omega)
                    have hw1 : sgnW s en c = [c, c1] := by unfold sgnW; rw [hc1]; simp only; rw [if_pos (by rw [htw]; exact decide_eq_true hd1)]
                    have hsl : (s.drop en).take (en + 2 - en) = [c, c1] := by rw [Nat.add_sub_cancel_left, drop_cons hc0, drop_cons hc1]; rfl
                    rw [hw1] at hA
                    rw [hsl]
                    exact ⟨[c, c1], en + 2, ⟨hT0, by rw [hA], fun _ => ⟨by rw [hA]; rfl, by omega, Rch.last (c := c1) hc1 (by rw [hd1]; exact htlo) (by omega) (by omega)⟩⟩, hL, h9, kp _ ⟨rfl, rfl, rfl, rfl, rfl, rfl, rfl, rfl, trivial⟩⟩
                  · try simp only [decide_eq_true_eq, decide_eq_false_iff_not, Bool.not_eq_true', Bool.not_eq_false', Bool.not_eq_eq_eq_not, Bool.not_true, Bool.not_false, beq_iff_eq, bne_iff_ne, ne_eq, beq_eq_false_iff_ne, bne_eq_false_iff_eq, gt_iff_lt, ge_iff_le, Int.not_lt, Int.not_le] at hc184
                    refine c_skip (x_blk (x_then ?_))
                    have hd1 : c1 ≠ tw := fun h => by subst h; exact hc184 rfl
                    have hw1 : sgnW s en c = [c] := by unfold sgnW; rw [hc1]; simp only; rw [if_neg (by rw [htw]; simpa using hd1)]
                    rw [hw1] at hA
                    exact ⟨[c], en + 1, ⟨hT0, by rw [hA], fun _ => ⟨by rw [hA]; rfl, by omega, .inr ⟨by omega, .inl (by omega)⟩⟩⟩, hL, h9, kp _ ⟨rfl, rfl, rfl, rfl, rfl, rfl, rfl, rfl, trivial⟩⟩
                · try simp only [decide_eq_true_eq, decide_eq_false_iff_not, Bool.not_eq_true', Bool.not_eq_false', Bool.not_eq_eq_eq_not, Bool.not_true, Bool.not_false, beq_iff_eq, bne_iff_ne, ne_eq, beq_eq_false_iff_ne, bne_eq_false_iff_eq, gt_iff_lt, ge_iff_le, Int.not_lt, Int.not_le] at hg178
                  refine wlg_no rfl ?_
                  refine wlg_no rfl ?_
                  refine wlg_no rfl ?_
                  refine wlg_no rfl ?_
                  refine wlg_no rfl ?_
                  refine wl (ro_pick rfl rfl rfl) ?_
                  refine wl_nil (x_then (hK86 _ _ ?_))
                  clear hK86 K86
                  refine wc_condF rfl ?_
                  refine c_skip (x_blk (x_then ?_))
                  have hw1 : sgnW s en c = [c] := by unfold sgnW; rw [List.getElem?_eq_none (by omega)]
                  rw [hw1] at hA
                  exact ⟨[c], en + 1, ⟨hT0, by rw [hA], fun _ => ⟨by rw [hA]; rfl, by omega, .inr ⟨by omega, .inl (by omega)⟩⟩⟩, hL, h9, kp _ ⟨rfl, rfl, rfl, rfl, rfl, rfl, rfl, rfl, trivial⟩⟩
              clear hF hX h5 hL h9
              rintro a' u3 ⟨wd, en', hE, hL, h9, e, rfl⟩
              have hX := hL.blkN hX2
              have h5 := hL.blkN h52
              have hF := hF2.thenN hL
              refine c_seq (fun K88 hK88 => ?_)
              refine c_seq (fun K89 hK89 => ?_)
              refine c_reg ?_ -- region 36 lex.go:108
              refine wl (ro_move rfl) ?_
              refine wl_call rfl en_133 (sign133 (hGf hF)) ?_
              rintro _ u0 ⟨rfl, hw0⟩
              rw [hw0]
              clear hw0 u0
              refine wl (ro_fieldAddr (k := 0) rfl fo_182_0) ?_
              refine wl_put rfl rfl rfl sz_180 h9 (by simp) (rfl) (fun w22 h9 F22 => ?_)
              replace hF := hF.thenDrew.thenO F22 (by first | exact .inr (by omega) | exact .inl rfl | exact .inl (by assumption) | assumption)
              replace hX := F22.blkO hX (by omega)
              replace h5 := F22.blkO h5 (by omega)
              replace hL := hL.thenDrew.thenO F22 (by first | exact .inr (by omega) | exact .inl rfl | exact .inl (by assumption) | assumption)
              refine wl_nil (x_then (hK89 _ _ ?_))
              clear hK89 K89
              refine c_reg ?_ -- region 37 lex.go:109
              refine wl (ro_fieldAddr (k := 4) rfl fo_182_4) ?_
              refine wl_put rfl rfl rfl sz_54 h9 (by simp) (rfl) (fun w23 h9 F23 => ?_)
              replace hF := hF.thenDrew.thenO F23 (by first | exact .inr (by omega) | exact .inl rfl | exact .inl (by assumption) | assumption)
              replace hX := F23.blkO hX (by omega)
              replace h5 := F23.blkO h5 (by omega)
              replace hL := hL.thenDrew.thenO F23 (by first | exact .inr (by omega) | exact .inl rfl | exact .inl (by assumption) | assumption)
              refine wl_nil (x_then (hK88 _ _ ?_))
              clear hK88 K88
              refine c_exit (x_blkX (x_then ?_))
              refine ⟨13, en', ⟨hE.tf, fun hk => ?_, fun hk => ?_⟩, hL, ?_, kp _ ⟨rfl, rfl, rfl, rfl, rfl, rfl, rfl, trivial⟩⟩
              · rw [hE.tk] at hk ⊢; rw [(sgT_e wd en).1 hk]; rfl
              · have := hE.ok hk
                refine ⟨?_, this⟩
                rw [hE.tk] at hk ⊢
                exact (sgT_e wd en).2 hk
              · rw [hE.tk, sgT_k, sgT_s, sgT_n]; exact h9
            clear hF hX h5 hL h9
            rintro a' u3 ⟨e0, en', hE, hL, h9, e, rfl⟩
            have hM : Fram (one b5) u2 u3 := hL.mono (fun _ _ h => h.elim)
            have hX := hL.blkN hX2
            have h5 := hL.blkN h52
            have hF := hF2.thenN hL
            refine c_seq (fun K90 hK90 => ?_)
            refine c_seq (fun K91 hK91 => ?_)
            refine c_reg ?_ -- region 38 lex.go:111
            refine wl (ro_fieldAddr (k := 0) rfl fo_182_0) ?_
            refine wl (ro_loadB rfl sc_180 (by assumption) rfl) ?_
            refine wl (ro_cmp rfl rfl rfl) ?_
            refine wl_nil (x_then (hK91 _ _ ?_))
            clear hK91 K91
            refine wc_cond rfl (fun hc197 => ?_) (fun hc197 => ?_)
            · try simp only [decide_eq_true_eq, decide_eq_false_iff_not, Bool.not_eq_true', Bool.not_eq_false', Bool.not_eq_eq_eq_not, Bool.not_true, Bool.not_false, beq_iff_eq, bne_iff_ne, ne_eq, beq_eq_false_iff_ne, bne_eq_false_iff_eq, gt_iff_lt, ge_iff_le, Int.not_lt, Int.not_le] at hc197
              have hk1 : (tokAt c (s.drop (en + 1)) en).1.k = 1 := by omega
              have hU3 := hU2.fram hL (fun _ _ h => h)
              refine c_seq (fun K92 hK92 => ?_)
              refine c_reg ?_ -- region 39 lex.go:112
              refine wl (ro_loadAggB rfl ag_182 (by assumption) rfl rfl) ?_
              refine wl_puta rfl rfl ((by simp [Value.oneCell', i64c, icv, u64c, S])) sz_182 (rfl) h5 ((by simp [tkc])) (rfl) (fun w24 h5 F24 => ?_)
              replace hF := hF.thenDrew.thenO F24 (by first | exact .inr (by omega) | exact .inl rfl | exact .inl (by assumption) | assumption)
              replace hX := F24.blkO hX (by omega)
              replace hM := hM.thenDrew.thenO F24 (by first | exact .inr (by omega) | exact .inl rfl | exact .inl (by assumption) | assumption)
              replace h9 := F24.blkO h9 (by omega)
              refine wl_nil (x_then (hK92 _ _ ?_))
              clear hK92 K92
              refine c_exit (x_thenX (x_blkY rfl (x_thenX (x_blkX (x_then ?_)))))
              refine ⟨acc, (tokAt c (s.drop (en + 1)) en).1, U, by rw [htk, hE.tf, if_pos hk1], by omega, ⟨hF, hX, ?_, hU2.fram hM (fun b hb he => n5 (he ▸ hb)), n5, nt⟩, kp _ ⟨rfl, rfl, rfl, trivial⟩⟩
              have hb := hE.bad hk1
              unfold tkc
              rw [tokAt_pl]
              rw [hb] at h5
              exact h5
            · try simp only [decide_eq_true_eq, decide_eq_false_iff_not, Bool.not_eq_true', Bool.not_eq_false', Bool.not_eq_eq_eq_not, Bool.not_true, Bool.not_false, beq_iff_eq, bne_iff_ne, ne_eq, beq_eq_false_iff_ne, bne_eq_false_iff_eq, gt_iff_lt, ge_iff_le, Int.not_lt, Int.not_le] at hc197
              refine c_skip (x_then (hK90 _ _ ?_))
              clear hK90 K90
              refine forget [(0, _), (1, _), (4, _), (5, _), (6, _), (9, _), (21, _)] ⟨rfl, rfl, rfl, rfl, rfl, rfl, rfl, trivial⟩ (fun e => ?_)
              refine c_seq (fun K93 hK93 => ?_)
              refine c_reg ?_ -- region 40 lex.go:115
              refine wl (ro_fieldAddr (k := 4) rfl fo_182_4) ?_
              refine wl_put rfl rfl rfl sz_54 h9 (by simp) (rfl) (fun w25 h9 F25 => ?_)
              replace hF := hF.thenDrew.thenO F25 (by first | exact .inr (by omega) | exact .inl rfl | exact .inl (by assumption) | assumption)
              replace hX := F25.blkO hX (by omega)
              replace h5 := F25.blkO h5 (by omega)
              replace hL := hL.thenDrew.thenO F25 (by first | exact .inr (by omega) | exact .inl rfl | exact .inl (by assumption) | assumption)
              replace hM := hM.thenDrew.thenO F25 (by first | exact .inr (by omega) | exact .inl rfl | exact .inl (by assumption) | assumption)
              refine wl_nil (x_then (hK93 _ _ ?_))
              clear hK93 K93
              refine c_reg ?_ -- region 41 lex.go:116
              refine wl (ro_move rfl) ?_
              refine wl (ro_loadAggB rfl ag_182 (by assumption) rfl rfl) ?_
              refine wl_bsapp (t := 76) (et := 182) (k := 5) (cs := [i64c (tokAt c (s.drop (en + 1)) en).1.k, i64c en, S (tokAt c (s.drop (en + 1)) en).1.s, u64c (tokAt c (s.drop (en + 1)) en).1.n, i64c 0]) rfl rfl rfl rfl se_76 zx_182 by_182 rfl rfl rfl (by simp [Value.oneCell', i64c, u64c, S]) (hU2.fram hL (fun _ _ h => h)) (by omega) (by omega) ?_
              intro v' u5 hon G5 hnb
              have hU4 := hU2.fram hL (fun _ _ h => h)
              have hI4 := hIt2.fram hL (fun h => h)
              replace hF := hF.trans' G5 (fun k hk q => .inr (nt k q hk))
              have hszw := hF2.thenN hL |>.size
              have hszu := hL.size
              have h5l := h5.lt
              replace hX := G5.blkF hX (hU4.neT hX (by decide))
              replace h5 := G5.blkF h5 n5
              have hI5 := hI4.fram G5 (hI4.own_ne hU4)
              have hk1 : (tokAt c (s.drop (en + 1)) en).1.k ≠ 1 := by omega
              obtain ⟨q1, q2, q3, q4⟩ := hE.ok hk1
              have hcs : [i64c (tokAt c (s.drop (en + 1)) en).1.k, i64c en, S (tokAt c (s.drop (en + 1)) en).1.s, u64c (tokAt c (s.drop (en + 1)) en).1.n, i64c 0] = tkc (tokAt c (s.drop (en + 1)) en).1 := by unfold tkc; rw [q1, tokAt_pl]
              rw [hcs, ← rws_one (enc := tkc), ← rws_app] at hon
              have hp1 := tokAt_pos c (s.drop (en + 1)) en
              skip
              refine wl (ro_assign rfl) ?_
              refine wl_nil (x_blk (x_then ?_))
              refine ⟨s.length - (en + z), by omega, en + z, en', acc ++ [(tokAt c (s.drop (en + 1)) en).1], v', rfl, q4, q3, by rw [htk, hE.tf, if_neg hk1, q2]; simp, by rw [List.length_append]; simp only [List.length_cons, List.length_nil]; omega, hI5, ⟨hF, hX, h5, ?_, fun hb => ?_, fun b hb hlt => ?_⟩, kp _ ⟨rfl, rfl, rfl, rfl, rfl, rfl, trivial⟩⟩
              · rw [List.length_append]; exact hon
              · rcases hnb _ hb with h | h
                · exact n5 h
                · omega
              · rcases hnb _ hb with h | h
                · exact nt b h hlt
                · omega
          · skip
            have hcm : ¬ (c = 45 ∧ s[en + 1]? = some 45) := fun q => h45 q.2
            refine c_reg ?_ -- region 7 lex.go:69
            refine wl (ro_move rfl) ?_
            refine wl (ro_arith rfl rfl rfl (Go.IntWalk.i64_in _ (by omega))) ?_
            refine wl (ro_assign rfl) ?_
            refine wl_nil (x_then (hK12 _ _ ?_))
            clear hK12 K12
            refine forget [(0, _), (1, _), (4, _), (5, _), (6, _), (7, _), (8, _), (21, _)] ⟨rfl, rfl, rfl, rfl, rfl, rfl, rfl, rfl, trivial⟩ (fun e => ?_)
            refine c_seq (fun K94 hK94 => ?_)
            refine c_reg ?_ -- region 8 lex.go:70
            refine wl (ro_move rfl) ?_
            refine wl (ro_build rfl bld_182_0_1_4) ?_
            refine wl_new (ze_182) (fun b9 w26 hbb9 h9 F26 => ?_)
            have hbsb9 := Nat.le_trans hF.size hbb9
            have hnesbb9 : sb < b9 := Nat.lt_of_lt_of_le hX.lt hbb9
            have hneb5b9 : b5 < b9 := Nat.lt_of_lt_of_le h5.lt hbb9
            have hbsb9 := Nat.le_trans hL.size hbb9
            replace hF := hF.thenDrew.thenN F26
            replace hX := F26.blkN hX
            replace h5 := F26.blkN h5
            replace hL := hL.thenDrew.thenN F26
            refine wl_puta rfl rfl ((by (try exact vlc_cells _); all_goals simp [Value.oneCell', i64c, icv, u64c, u8c, ptr, S])) sz_182 (rfl) h9 ((by simp)) (rfl) (fun w27 h9 F27 => ?_)
            replace hF := hF.thenDrew.thenO F27 (by first | exact .inr (by omega) | exact .inl rfl | exact .inl (by assumption) | assumption)
            replace hX := F27.blkO hX (by omega)
            replace h5 := F27.blkO h5 (by omega)
            replace hL := hL.thenDrew.thenO F27 (by first | exact .inr (by omega) | exact .inl rfl | exact .inl (by assumption) | assumption)
            refine wl_nil (x_then (hK94 _ _ ?_))
            clear hK94 K94
            refine forget [(0, _), (1, _), (4, _), (5, _), (6, _), (7, _), (8, _), (9, _), (21, _)] ⟨rfl, rfl, rfl, rfl, rfl, rfl, rfl, rfl, rfl, trivial⟩ (fun e => ?_)
            refine c_seq (fun K95 hK95 => ?_)
            refine c_reg ?_ -- region 9 lex.go:71
            refine wl (ro_move rfl) ?_
            refine wl (ro_runeA (by omega) rfl sc_21 st_9) ?_
            refine wl (ro_assign rfl) ?_
            refine wl_nil (x_then (hK95 _ _ ?_))
            clear hK95 K95
            refine forget [(0, _), (1, _), (4, _), (5, _), (6, _), (7, _), (8, _), (9, _), (10, _), (21, _)] ⟨rfl, rfl, rfl, rfl, rfl, rfl, rfl, rfl, rfl, rfl, trivial⟩ (fun e => ?_)
            refine c_seq (fun K96 hK96 => ?_)
            refine c_reg ?_ -- region 10 lex.go:72
            refine wl (ro_assign rfl) ?_
            refine wl_nil (x_then (hK96 _ _ ?_))
            clear hK96 K96
            refine forget [(0, _), (1, _), (4, _), (5, _), (6, _), (7, _), (8, _), (9, _), (10, _), (11, _), (21, _)] ⟨rfl, rfl, rfl, rfl, rfl, rfl, rfl, rfl, rfl, rfl, rfl, trivial⟩ (fun e => ?_)
            refine c_mid (fun a' w' => ∃ (e0 : Int) (en' : Nat), ScE s en z (tokAt c (s.drop (en + 1)) en) e0 en' ∧ Fram none' u2 w' ∧ Blk w'.heap b9 [i64c (tokAt c (s.drop (en + 1)) en).1.k, i64c en, S (tokAt c (s.drop (en + 1)) en).1.s, u64c (tokAt c (s.drop (en + 1)) en).1.n, icv e0] 182 ∧ ∃ e, a' = Fr 211 (upds e [(0, ptr sb), (1, S s), (4, U), (5, ptr b5), (6, i64c en'), (9, ptr b9), (21, ptr ri)]) []) ?_ ?_
            · skip
              refine c_block ?_
              refine c_mid (fun a' w' => ∃ (wd : Str) (en' : Nat), SgE s en z (tokAt c (s.drop (en + 1)) en) wd en' ∧ Fram none' u2 w' ∧ Blk w'.heap b9 [i64c 1, i64c en, S [], u64c 0, icv 14] 182 ∧ ∃ e, a' = Fr 211 (upds e [(0, ptr sb), (1, S s), (4, U), (5, ptr b5), (6, i64c en'), (9, ptr b9), (10, S wd), (21, ptr ri)]) []) ?_ ?_
              · skip
                refine c_block ?_
                refine c_mid (fun a' w' => ∃ (tw : UInt8), c.toNat < 128 ∧ tw.toNat < 128 ∧ z = 1 ∧ tkF s en = (if (tokAt c (s.drop (en + 1)) en).1.k = 1 then [(tokAt c (s.drop (en + 1)) en).1] else (tokAt c (s.drop (en + 1)) en).1 :: tkF s (en + (tokAt c (s.drop (en + 1)) en).2)) ∧ (∀ d, twoC c d = decide (d = tw)) ∧ tokAt c (s.drop (en + 1)) en = (sgT (sgnW s en c) en, (sgnW s en c).length) ∧ Fram none' u2 w' ∧ Blk w'.heap b9 [i64c 1, i64c en, S [], u64c 0, icv 14] 182 ∧ ∃ e, a' = Fr 211 (upds e [(0, ptr sb), (1, S s), (4, U), (5, ptr b5), (6, i64c (en + 1)), (7, i64c en), (9, ptr b9), (10, S [c]), (11, u8c tw), (21, ptr ri)]) []) ?_ ?_
                · skip
                  refine c_block ?_
                  refine c_seq (fun K97 hK97 => ?_)
                  refine c_block ?_
                  refine c_seq (fun K98 hK98 => ?_)
                  refine c_block ?_
                  refine c_seq (fun K99 hK99 => ?_)
                  refine c_block ?_
                  refine c_seq (fun K100 hK100 => ?_)
                  refine c_block ?_
                  refine c_seq (fun K101 hK101 => ?_)
                  refine c_block ?_
                  refine c_seq (fun K102 hK102 => ?_)
                  refine c_block ?_
                  refine c_seq (fun K103 hK103 => ?_)
                  refine c_seq (fun K104 hK104 => ?_)
                  refine c_seq (fun K105 hK105 => ?_)
                  refine c_reg ?_ -- region 11 lex.go:74
                  refine wl (ro_move rfl) ?_
                  refine wl (ro_cmp (r := false) rfl rfl (congrArg some (beq_eq_false_iff_ne.2 (by omega)))) ?_
                  refine wl (ro_move rfl) ?_
                  refine wlg_yes rfl (ro_move rfl) ?_
                  refine wlg_yes rfl (ro_cmp (r := false) rfl rfl (congrArg some (beq_eq_false_iff_ne.2 (by omega)))) ?_
                  refine wl (ro_pick rfl rfl rfl) ?_
                  refine wl (ro_move rfl) ?_
                  refine wlg_yes rfl (ro_move rfl) ?_
                  refine wlg_yes rfl (ro_cmp (r := false) rfl rfl (congrArg some (beq_eq_false_iff_ne.2 (by omega)))) ?_
                  refine wl (ro_pick rfl rfl rfl) ?_
                  refine wl (ro_move rfl) ?_
                  refine wlg_yes rfl (ro_move rfl) ?_
                  refine wlg_yes rfl (ro_cmp (r := false) rfl rfl (congrArg some (beq_eq_false_iff_ne.2 (by omega)))) ?_
                  refine wl (ro_pick rfl rfl rfl) ?_
                  refine wl (ro_assign rfl) ?_
                  refine wl_nil (x_then (hK105 _ _ ?_))
                  clear hK105 K105
                  refine wc_condF rfl ?_
                  refine c_skip (x_then (hK104 _ _ ?_))
                  clear hK104 K104
                  refine c_seq (fun K106 hK106 => ?_)
                  refine c_seq (fun K107 hK107 => ?_)
                  refine c_reg ?_ -- region 12 lex.go:76
                  refine wl (ro_move rfl) ?_
                  refine wl (ro_cmp (r := true) rfl rfl (congrArg some (beq_iff_eq.2 (by omega)))) ?_
                  refine wl (ro_move rfl) ?_
                  refine wlg_yes rfl (ro_move rfl) ?_
                  refine wlg_yes rfl (ro_move rfl) ?_
                  refine wlg_yes rfl (ro_arith rfl rfl rfl (Go.IntWalk.i64_in _ (by omega))) ?_
                  refine wlg_yes rfl (ro_move rfl) ?_
                  refine wlg_yes rfl (ro_arith rfl rfl rfl (Go.IntWalk.i64_in _ (by omega))) ?_
                  refine wlg_yes rfl (ro_move rfl) ?_
                  refine wlg_yes rfl (ro_lenS rfl st_9) ?_
                  refine wlg_yes rfl (ro_min rfl rfl) ?_
                  refine wlg_yes rfl (ro_sliceSLH (l := en + 1) (h := min (en + 2) s.length) rfl rfl rfl st_9 (by omega) (by omega) (by omega) (by omega)) ?_
                  refine wlg_yes rfl (ro_eqS (m := [45]) (r := false) rfl rfl (congrArg some (beq_eq_false_iff_ne.2 (cm_no h45)))) ?_
                  refine wl (ro_pick rfl rfl rfl) ?_
                  refine wl (ro_assign rfl) ?_
                  refine wl_nil (x_then (hK107 _ _ ?_))
                  clear hK107 K107
                  refine wc_condF rfl ?_
                  refine c_skip (x_then (hK106 _ _ ?_))
                  clear hK106 K106
                  refine c_seq (fun K108 hK108 => ?_)
                  refine c_seq (fun K109 hK109 => ?_)
                  have hsp : isSp c = false := Bool.eq_false_iff.2 (fun q => by have := (isSp_iff c).1 q; omega)
                  have hT0 := tkF_tok hc0 hsp hcm
                  refine c_reg ?_ -- region 13 lex.go:79
                  refine wl (ro_move rfl) ?_
                  refine wl_call rfl en_128 (letter128) ?_
                  rintro _ u0 ⟨rfl, hw0⟩
                  rw [hw0, decide_eq_false (by omega)]
                  clear hw0 u0
                  refine wl (ro_assign rfl) ?_
                  refine wl_nil (x_then (hK109 _ _ ?_))
                  clear hK109 K109
                  refine wc_condF rfl ?_
                  refine c_skip (x_then (hK108 _ _ ?_))
                  clear hK108 K108
                  refine c_seq (fun K110 hK110 => ?_)
                  refine c_seq (fun K111 hK111 => ?_)
                  have hnl : isLet c = false := Bool.eq_false_iff.2 (fun q => by have := (isLet_iff c).1 q; omega)
                  refine c_reg ?_ -- region 14 lex.go:85
                  refine wl (ro_move rfl) ?_
                  refine wl (ro_cmp (r := false) rfl rfl (congrArg some (decide_eq_false (by omega)))) ?_
                  refine wl (ro_move rfl) ?_
                  refine wlg_no rfl ?_
                  refine wlg_no rfl ?_
                  refine wl (ro_pick rfl rfl rfl) ?_
                  refine wl (ro_assign rfl) ?_
                  refine wl_nil (x_then (hK111 _ _ ?_))
                  clear hK111 K111
                  refine wc_condF rfl ?_
                  refine c_skip (x_then (hK110 _ _ ?_))
                  clear hK110 K110
                  refine c_seq (fun K112 hK112 => ?_)
                  refine c_seq (fun K113 hK113 => ?_)
                  have hnd : isDig c = false := Bool.eq_false_iff.2 (fun q => by have := (isDig_iff c).1 q; omega)
                  refine c_reg ?_ -- region 15 lex.go:92
                  refine wl (ro_move rfl) ?_
                  refine wl (ro_cmp (r := false) rfl rfl (congrArg some (beq_eq_false_iff_ne.2 (by omega)))) ?_
                  refine wl (ro_assign rfl) ?_
                  refine wl_nil (x_then (hK113 _ _ ?_))
                  clear hK113 K113
                  refine wc_condF rfl ?_
                  refine c_skip (x_then (hK112 _ _ ?_))
                  clear hK112 K112
                  refine c_seq (fun K114 hK114 => ?_)
                  refine c_seq (fun K115 hK115 => ?_)
                  have hn34 : c ≠ 34 := fun e => by
                    have : c.toNat = 34 := by rw [e]; rfl
                    omega
                  have hA := tok_sgn (s := s) (p := en) hnl hnd hn34
                  refine c_reg ?_ -- region 16 lex.go:98
                  refine wl (ro_move rfl) ?_
                  refine wl (ro_cmp (r := false) rfl rfl (congrArg some (beq_eq_false_iff_ne.2 (by omega)))) ?_
                  refine wl (ro_move rfl) ?_
                  refine wlg_yes rfl (ro_move rfl) ?_
                  refine wlg_yes rfl (ro_cmp (r := false) rfl rfl (congrArg some (beq_eq_false_iff_ne.2 (by omega)))) ?_
                  refine wl (ro_pick rfl rfl rfl) ?_
                  refine wl (ro_assign rfl) ?_
                  refine wl_nil (x_then (hK115 _ _ ?_))
                  clear hK115 K115
                  refine wc_condF rfl ?_
                  refine c_skip (x_then (hK114 _ _ ?_))
                  clear hK114 K114
                  refine forget [(0, _), (1, _), (4, _), (5, _), (6, _), (7, _), (8, _), (9, _), (10, _), (11, _), (21, _), (39, _), (40, _), (43, _), (44, _), (47, _), (48, _), (54, _), (55, _), (56, _), (57, _), (58, _), (59, _), (60, _), (61, _), (62, _), (63, _), (82, _), (83, _)] ⟨rfl, rfl, rfl, rfl, rfl, rfl, rfl, rfl, rfl, rfl, rfl, rfl, rfl, rfl, rfl, rfl, rfl, rfl, rfl, rfl, rfl, rfl, rfl, rfl, rfl, rfl, rfl, rfl, rfl, trivial⟩ (fun e => ?_)
                  refine c_seq (fun K116 hK116 => ?_)
                  refine c_reg ?_ -- region 17 lex.go:101
                  refine wl (ro_move rfl) ?_
                  refine wl (ro_cmp (r := false) rfl rfl (congrArg some (beq_eq_false_iff_ne.2 (by omega)))) ?_
                  refine wl (ro_move rfl) ?_
                  refine wlg_yes rfl (ro_move rfl) ?_
                  refine wlg_yes rfl (ro_cmp (r := false) rfl rfl (congrArg some (beq_eq_false_iff_ne.2 (by omega)))) ?_
                  refine wl (ro_pick rfl rfl rfl) ?_
                  refine wl (ro_move rfl) ?_
                  refine wlg_yes rfl (ro_move rfl) ?_
                  refine wlg_yes rfl (ro_cmp (r := false) rfl rfl (congrArg some (beq_eq_false_iff_ne.2 (by omega)))) ?_
                  refine wl (ro_pick rfl rfl rfl) ?_
                  refine wl (ro_move rfl) ?_
                  refine wlg_yes rfl (ro_move rfl) ?_
                  refine wlg_yes rfl (ro_cmp (r := false) rfl rfl (congrArg some (beq_eq_false_iff_ne.2 (by omega)))) ?_
                  refine wl (ro_pick rfl rfl rfl) ?_
                  refine wl (ro_assign rfl) ?_
                  refine wl_nil (x_then (hK116 _ _ ?_))
                  clear hK116 K116
                  refine wc_condF rfl ?_
                  refine c_skip (x_then (hK103 _ _ ?_))
                  clear hK103 K103
                  refine c_exit (x_blkY rfl (x_thenX (x_blkY rfl (x_thenX (x_blkY rfl (x_thenX (x_blkY rfl (x_thenX (x_blkY rfl (x_thenX (x_blkY rfl (x_thenX (x_blkY rfl (x_thenX (x_blkX (x_then ?_))))))))))))))))
                  rw [twoC_no' (twoC_no (c := c) (by omega))] at hA
                  exact ⟨[c], en + 1, ⟨hT0, by rw [hA]; rfl, fun _ => ⟨by rw [hA]; rfl, by omega, .inr ⟨by omega, .inl (by omega)⟩⟩⟩, hL, h9, kp _ ⟨rfl, rfl, rfl, rfl, rfl, rfl, rfl, rfl, trivial⟩⟩
                clear hF hX h5 hL h9
                rintro a' u3 ⟨tw, hlo', htlo, hz', hT0, htw, hA, hL, h9, e, rfl⟩
                have hX := hL.blkN hX2
                have h5 := hL.blkN h52
                have hF := hF2.thenN hL
                refine c_seq (fun K117 hK117 => ?_)
                refine c_reg ?_ -- region 33 lex.go:102
                refine wl (ro_move rfl) ?_
                refine wl (ro_move rfl) ?_
                refine wl (ro_lenS rfl st_9) ?_
                refine wl (ro_cmp rfl rfl rfl) ?_
                refine wl_fork rfl (fun hg178 => ?_) (fun hg178 => ?_)
                · try simp only [decide_eq_true_eq, decide_eq_false_iff_not, Bool.not_eq_true', Bool.not_eq_false', Bool.not_eq_eq_eq_not, Bool.not_true, Bool.not_false, beq_iff_eq, bne_iff_ne, ne_eq, beq_eq_false_iff_ne, bne_eq_false_iff_eq, gt_iff_lt, ge_iff_le, Int.not_lt, Int.not_le] at hg178
                  obtain ⟨c1, hc1⟩ : ∃ c1, s[en + 1]? = some c1 := ⟨_, List.getElem?_eq_getElem (by omega)⟩
                  refine wlg_yes rfl (ro_move rfl) ?_
                  refine wlg_yes rfl (ro_move rfl) ?_
                  refine wlg_yes rfl (ro_indexS rfl rfl st_9 rfl (hc1)) ?_
                  refine wlg_yes rfl (ro_move rfl) ?_
                  refine wlg_yes rfl (ro_cmp rfl rfl rfl) ?_
                  refine wl (ro_pick rfl rfl rfl) ?_
                  refine wl_nil (x_then (hK117 _ _ ?_))
                  clear hK117 K117
                  refine wc_cond rfl (fun hc184 => ?_) (fun hc184 => ?_)
                  · try simp only [decide_eq_true_eq, decide_eq_false_iff_not, Bool.not_eq_true', Bool.not_eq_false', Bool.not_eq_eq_eq_not, Bool.not_true, Bool.not_false, beq_iff_eq, bne_iff_ne, ne_eq, beq_eq_false_iff_ne, bne_eq_false_iff_eq, gt_iff_lt, ge_iff_le, Int.not_lt, Int.not_le] at hc184
                    refine c_seq (fun K118 hK118 => ?_)
                    refine c_reg ?_ -- region 34 lex.go:103
                    refine wl (ro_move rfl) ?_
                    refine wl (ro_arith rfl rfl rfl (Go.IntWalk.i64_in _ (by omega))) ?_
                    refine wl (ro_assign rfl) ?_
                    refine wl_nil (x_then (hK118 _ _ ?_))
                    clear hK118 K118
                    refine c_reg ?_ -- region 35 lex.go:104
                    refine wl (ro_move rfl) ?_
                    refine wl (ro_move rfl) ?_
                    refine wl (ro_move rfl) ?_
                    refine wl (ro_sliceSLH (l := en) (h := en + 2) rfl rfl rfl st_9 rfl rfl (by omega) (by omega)) ?_
                    refine wl (ro_assign rfl) ?_
                    refine wl_nil (x_blk (x_then ?_))
                    have hd1 : c1 = tw := UInt8.toNat_inj.1 (by omega)
                    have hw1 : sgnW s en c = [c, c1] := by unfold sgnW; rw [hc1]; simp only; rw [if_pos (by rw [htw]; exact decide_eq_true hd1)]
                    have hsl : (s.drop en).take (en + 2 - en) = [c, c1] := by rw [Nat.add_sub_cancel_left, drop_cons hc0, drop_cons hc1]; rfl
                    rw [hw1] at hA
                    rw [hsl]
                    exact ⟨[c, c1], en + 2, ⟨hT0, by rw [hA], fun _ => ⟨by rw [hA]; rfl, by omega, Rch.last (c := c1) hc1 (by rw [hd1]; exact htlo) (by omega) (by omega)⟩⟩, hL, h9, kp _ ⟨rfl, rfl, rfl, rfl, rfl, rfl, rfl, rfl, trivial⟩⟩
                  · try simp only [decide_eq_true_eq, decide_eq_false_iff_not, Bool.not_eq_true', Bool.not_eq_false', Bool.not_eq_eq_eq_not, Bool.not_true, Bool.not_false, beq_iff_eq, bne_iff_ne, ne_eq, beq_eq_false_iff_ne, bne_eq_false_iff_eq, gt_iff_lt, ge_iff_le, Int.not_lt, Int.not_le] at hc184
                    refine c_skip (x_blk (x_then ?_))
                    have hd1 : c1 ≠ tw := fun h => by subst h; exact hc184 rfl
                    have hw1 : sgnW s en c = [c] := by unfold sgnW; rw [hc1]; simp only; rw [if_neg (by rw [htw]; simpa using hd1)]
                    rw [hw1] at hA
                    exact ⟨[c], en + 1, ⟨hT0, by rw [hA], fun _ => ⟨by rw [hA]; rfl, by omega, .inr ⟨by omega, .inl (by omega)⟩⟩⟩, hL, h9, kp _ ⟨rfl, rfl, rfl, rfl, rfl, rfl, rfl, rfl, trivial⟩⟩
                · try simp only [decide_eq_true_eq, decide_eq_false_iff_not, Bool.not_eq_true', Bool.not_eq_false', Bool.not_eq_eq_eq_not, Bool.not_true, Bool.not_false, beq_iff_eq, bne_iff_ne, ne_eq, beq_eq_false_iff_ne, bne_eq_false_iff_eq, gt_iff_lt, ge_iff_le, Int.not_lt, Int.not_le] at hg178
                  refine wlg_no rfl ?_
                  refine wlg_no rfl ?_
                  refine wlg_no rfl ?_
                  refine wlg_no rfl ?_
                  refine wlg_no rfl ?_
                  refine wl (ro_pick rfl rfl rfl) ?_
                  refine wl_nil (x_then (hK117 _ _ ?_))
                  clear hK117 K117
                  refine wc_condF rfl ?_
                  refine c_skip (x_blk (x_then ?_))
                  have hw1 : sgnW s en c = [c] := by unfold sgnW; rw [List.getElem?_eq_none (by omega)]
                  rw [hw1] at hA
                  exact ⟨[c], en + 1, ⟨hT0, by rw [hA], fun _ => ⟨by rw [hA]; rfl, by omega, .inr ⟨by omega, .inl (by omega)⟩⟩⟩, hL, h9, kp _ ⟨rfl, rfl, rfl, rfl, rfl, rfl, rfl, rfl, trivial⟩⟩
              clear hF hX h5 hL h9
              rintro a' u3 ⟨wd, en', hE, hL, h9, e, rfl⟩
              have hX := hL.blkN hX2
              have h5 := hL.blkN h52
              have hF := hF2.thenN hL
              refine c_seq (fun K119 hK119 => ?_)
              refine c_seq (fun K120 hK120 => ?_)
              refine c_reg ?_ -- region 36 lex.go:108
              refine wl (ro_move rfl) ?_
              refine wl_call rfl en_133 (sign133 (hGf hF)) ?_
              rintro _ u0 ⟨rfl, hw0⟩
              rw [hw0]
              clear hw0 u0
              refine wl (ro_fieldAddr (k := 0) rfl fo_182_0) ?_
              refine wl_put rfl rfl rfl sz_180 h9 (by simp) (rfl) (fun w28 h9 F28 => ?_)
              replace hF := hF.thenDrew.thenO F28 (by first | exact .inr (by omega) | exact .inl rfl | exact .inl (by assumption) | assumption)
              replace hX := F28.blkO hX (by omega)
              replace h5 := F28.blkO h5 (by omega)
              replace hL := hL.thenDrew.thenO F28 (by first | exact .inr (by omega) | exact .inl rfl | exact .inl (by assumption) | assumption)
              refine wl_nil (x_then (hK120 _ _ ?_))
              clear hK120 K120
              refine c_reg ?_ -- region 37 lex.go:109
              refine wl (ro_fieldAddr (k := 4) rfl fo_182_4) ?_
              refine wl_put rfl rfl rfl sz_54 h9 (by simp) (rfl) (fun w29 h9 F29 => ?_)
              replace hF := hF.thenDrew.thenO F29 (by first | exact .inr (by omega) | exact .inl rfl | exact .inl (by assumption) | assumption)
              replace hX := F29.blkO hX (by omega)
              replace h5 := F29.blkO h5 (by omega)
              replace hL := hL.thenDrew.thenO F29 (by first | exact .inr (by omega) | exact .inl rfl | exact .inl (by assumption) | assumption)
              refine wl_nil (x_then (hK119 _ _ ?_))
              clear hK119 K119
              refine c_exit (x_blkX (x_then ?_))
              refine ⟨13, en', ⟨hE.tf, fun hk => ?_, fun hk => ?_⟩, hL, ?_, kp _ ⟨rfl, rfl, rfl, rfl, rfl, rfl, rfl, trivial⟩⟩
              · rw [hE.tk] at hk ⊢; rw [(sgT_e wd en).1 hk]; rfl
              · have := hE.ok hk
                refine ⟨?_, this⟩
                rw [hE.tk] at hk ⊢
                exact (sgT_e wd en).2 hk
              · rw [hE.tk, sgT_k, sgT_s, sgT_n]; exact h9
            clear hF hX h5 hL h9
            rintro a' u3 ⟨e0, en', hE, hL, h9, e, rfl⟩
            have hM : Fram (one b5) u2 u3 := hL.mono (fun _ _ h => h.elim)
            have hX := hL.blkN hX2
            have h5 := hL.blkN h52
            have hF := hF2.thenN hL
            refine c_seq (fun K121 hK121 => ?_)
            refine c_seq (fun K122 hK122 => ?_)
            refine c_reg ?_ -- region 38 lex.go:111
            refine wl (ro_fieldAddr (k := 0) rfl fo_182_0) ?_
            refine wl (ro_loadB rfl sc_180 (by assumption) rfl) ?_
            refine wl (ro_cmp rfl rfl rfl) ?_
            refine wl_nil (x_then (hK122 _ _ ?_))
            clear hK122 K122
            refine wc_cond rfl (fun hc197 => ?_) (fun hc197 => ?_)
            · try simp only [decide_eq_true_eq, decide_eq_false_iff_not, Bool.not_eq_true', Bool.not_eq_false', Bool.not_eq_eq_eq_not, Bool.not_true, Bool.not_false, beq_iff_eq, bne_iff_ne, ne_eq, beq_eq_false_iff_ne, bne_eq_false_iff_eq, gt_iff_lt, ge_iff_le, Int.not_lt, Int.not_le] at hc197
              have hk1 : (tokAt c (s.drop (en + 1)) en).1.k = 1 := by omega
              have hU3 := hU2.fram hL (fun _ _ h => h)
              refine c_seq (fun K123 hK123 => ?_)
              refine c_reg ?_ -- region 39 lex.go:112
              refine wl (ro_loadAggB rfl ag_182 (by assumption) rfl rfl) ?_
              refine wl_puta rfl rfl ((by simp [Value.oneCell', i64c, icv, u64c, S])) sz_182 (rfl) h5 ((by simp [tkc])) (rfl) (fun w30 h5 F30 => ?_)
              replace hF := hF.thenDrew.thenO F30 (by first | exact .inr (by omega) | exact .inl rfl | exact .inl (by assumption) | assumption)
              replace hX := F30.blkO hX (by omega)
              replace hM := hM.thenDrew.thenO F30 (by first | exact .inr (by omega) | exact .inl rfl | exact .inl (by assumption) | assumption)
              replace h9 := F30.blkO h9 (by omega)
              refine wl_nil (x_then (hK123 _ _ ?_))
              clear hK123 K123
              refine c_exit (x_thenX (x_blkY rfl (x_thenX (x_blkX (x_then ?_)))))
              refine ⟨acc, (tokAt c (s.drop (en + 1)) en).1, U, by rw [htk, hE.tf, if_pos hk1], by omega, ⟨hF, hX, ?_, hU2.fram hM (fun b hb he => n5 (he ▸ hb)), n5, nt⟩, kp _ ⟨rfl, rfl, rfl, trivial⟩⟩
              have hb := hE.bad hk1
              unfold tkc
              rw [tokAt_pl]
              rw [hb] at h5
              exact h5
            · try simp only [decide_eq_true_eq, decide_eq_false_iff_not, Bool.not_eq_true', Bool.not_eq_false', Bool.not_eq_eq_eq_not, Bool.not_true, Bool.not_false, beq_iff_eq, bne_iff_ne, ne_eq, beq_eq_false_iff_ne, bne_eq_false_iff_eq, gt_iff_lt, ge_iff_le, Int.not_lt, Int.not_le] at hc197
              refine c_skip (x_then (hK121 _ _ ?_))
              clear hK121 K121
              refine forget [(0, _), (1, _), (4, _), (5, _), (6, _), (9, _), (21, _)] ⟨rfl, rfl, rfl, rfl, rfl, rfl, rfl, trivial⟩ (fun e => ?_)
              refine c_seq (fun K124 hK124 => ?_)
              refine c_reg ?_ -- region 40 lex.go:115
              refine wl (ro_fieldAddr (k := 4) rfl fo_182_4) ?_
              refine wl_put rfl rfl rfl sz_54 h9 (by simp) (rfl) (fun w31 h9 F31 => ?_)
              replace hF := hF.thenDrew.thenO F31 (by first | exact .inr (by omega) | exact .inl rfl | exact .inl (by assumption) | assumption)
              replace hX := F31.blkO hX (by omega)
              replace h5 := F31.blkO h5 (by omega)
              replace hL := hL.thenDrew.thenO F31 (by first | exact .inr (by omega) | exact .inl rfl | exact .inl (by assumption) | assumption)
              replace hM := hM.thenDrew.thenO F31 (by first | exact .inr (by omega) | exact .inl rfl | exact .inl (by assumption) | assumption)
              refine wl_nil (x_then (hK124 _ _ ?_))
              clear hK124 K124
              refine c_reg ?_ -- region 41 lex.go:116
              refine wl (ro_move rfl) ?_
              refine wl (ro_loadAggB rfl ag_182 (by assumption) rfl rfl) ?_
              refine wl_bsapp (t := 76) (et := 182) (k := 5) (cs := [i64c (tokAt c (s.drop (en + 1)) en).1.k, i64c en, S (tokAt c (s.drop (en + 1)) en).1.s, u64c (tokAt c (s.drop (en + 1)) en).1.n, i64c 0]) rfl rfl rfl rfl se_76 zx_182 by_182 rfl rfl rfl (by simp [Value.oneCell', i64c, u64c, S]) (hU2.fram hL (fun _ _ h => h)) (by omega) (by omega) ?_
              intro v' u5 hon G5 hnb
              have hU4 := hU2.fram hL (fun _ _ h => h)
              have hI4 := hIt2.fram hL (fun h => h)
              replace hF := hF.trans' G5 (fun k hk q => .inr (nt k q hk))
              have hszw := hF2.thenN hL |>.size
              have hszu := hL.size
              have h5l := h5.lt
              replace hX := G5.blkF hX (hU4.neT hX (by decide))
              replace h5 := G5.blkF h5 n5
              have hI5 := hI4.fram G5 (hI4.own_ne hU4)
              have hk1 : (tokAt c (s.drop (en + 1)) en).1.k ≠ 1 := by omega
              obtain ⟨q1, q2, q3, q4⟩ := hE.ok hk1
              have hcs : [i64c (tokAt c (s.drop (en + 1)) en).1.k, i64c en, S (tokAt c (s.drop (en + 1)) en).1.s, u64c (tokAt c (s.drop (en + 1)) en).1.n, i64c 0] = tkc (tokAt c (s.drop (en + 1)) en).1 := by unfold tkc; rw [q1, tokAt_pl]
              rw [hcs, ← rws_one (enc := tkc), ← rws_app] at hon
              have hp1 := tokAt_pos c (s.drop (en + 1)) en
              skip
              refine wl (ro_assign rfl) ?_
              refine wl_nil (x_blk (x_then ?_))
              refine ⟨s.length - (en + z), by omega, en + z, en', acc ++ [(tokAt c (s.drop (en + 1)) en).1], v', rfl, q4, q3, by rw [htk, hE.tf, if_neg hk1, q2]; simp, by rw [List.length_append]; simp only [List.length_cons, List.length_nil]; omega, hI5, ⟨hF, hX, h5, ?_, fun hb => ?_, fun b hb hlt => ?_⟩, kp _ ⟨rfl, rfl, rfl, rfl, rfl, rfl, trivial⟩⟩
              · rw [List.length_append]; exact hon
              · rcases hnb _ hb with h | h
                · exact n5 h
                · omega
              · rcases hnb _ hb with h | h
                · exact nt b h hlt
                · omega
          · skip
            have hcm : ¬ (c = 45 ∧ s[en + 1]? = some 45) := fun q => by
              have : c.toNat = 45 := by rw [q.1]; rfl
              omega
            refine c_reg ?_ -- region 7 lex.go:69
            refine wl (ro_move rfl) ?_
            refine wl (ro_arith rfl rfl rfl (Go.IntWalk.i64_in _ (by omega))) ?_
            refine wl (ro_assign rfl) ?_
            refine wl_nil (x_then (hK12 _ _ ?_))
            clear hK12 K12
            refine forget [(0, _), (1, _), (4, _), (5, _), (6, _), (7, _), (8, _), (21, _)] ⟨rfl, rfl, rfl, rfl, rfl, rfl, rfl, rfl, trivial⟩ (fun e => ?_)
            refine c_seq (fun K125 hK125 => ?_)
            refine c_reg ?_ -- region 8 lex.go:70
            refine wl (ro_move rfl) ?_
            refine wl (ro_build rfl bld_182_0_1_4) ?_
            refine wl_new (ze_182) (fun b9 w32 hbb9 h9 F32 => ?_)
            have hbsb9 := Nat.le_trans hF.size hbb9
            have hnesbb9 : sb < b9 := Nat.lt_of_lt_of_le hX.lt hbb9
            have hneb5b9 : b5 < b9 := Nat.lt_of_lt_of_le h5.lt hbb9
            have hbsb9 := Nat.le_trans hL.size hbb9
            replace hF := hF.thenDrew.thenN F32
            replace hX := F32.blkN hX
            replace h5 := F32.blkN h5
            replace hL := hL.thenDrew.thenN F32
            refine wl_puta rfl rfl ((by (try exact vlc_cells _); all_goals simp [Value.oneCell', i64c, icv, u64c, u8c, ptr, S])) sz_182 (rfl) h9 ((by simp)) (rfl) (fun w33 h9 F33 => ?_)
            replace hF := hF.thenDrew.thenO F33 (by first | exact .inr (by omega) | exact .inl rfl | exact .inl (by assumption) | assumption)
            replace hX := F33.blkO hX (by omega)
            replace h5 := F33.blkO h5 (by omega)
            replace hL := hL.thenDrew.thenO F33 (by first | exact .inr (by omega) | exact .inl rfl | exact .inl (by assumption) | assumption)
            refine wl_nil (x_then (hK125 _ _ ?_))
            clear hK125 K125
            refine forget [(0, _), (1, _), (4, _), (5, _), (6, _), (7, _), (8, _), (9, _), (21, _)] ⟨rfl, rfl, rfl, rfl, rfl, rfl, rfl, rfl, rfl, trivial⟩ (fun e => ?_)
            refine c_seq (fun K126 hK126 => ?_)
            refine c_reg ?_ -- region 9 lex.go:71
            refine wl (ro_move rfl) ?_
            refine wl (ro_runeS rfl sc_21 st_9) ?_
            refine wl (ro_assign rfl) ?_
            refine wl_nil (x_then (hK126 _ _ ?_))
            clear hK126 K126
            refine forget [(0, _), (1, _), (4, _), (5, _), (6, _), (7, _), (8, _), (9, _), (10, _), (21, _)] ⟨rfl, rfl, rfl, rfl, rfl, rfl, rfl, rfl, rfl, rfl, trivial⟩ (fun e => ?_)
            refine c_seq (fun K127 hK127 => ?_)
            refine c_reg ?_ -- region 10 lex.go:72
            refine wl (ro_assign rfl) ?_
            refine wl_nil (x_then (hK127 _ _ ?_))
            clear hK127 K127
            refine forget [(0, _), (1, _), (4, _), (5, _), (6, _), (7, _), (8, _), (9, _), (10, _), (11, _), (21, _)] ⟨rfl, rfl, rfl, rfl, rfl, rfl, rfl, rfl, rfl, rfl, rfl, trivial⟩ (fun e => ?_)
            refine c_mid (fun a' w' => ∃ (e0 : Int) (en' : Nat), ScE s en z (tokAt c (s.drop (en + 1)) en) e0 en' ∧ Fram none' u2 w' ∧ Blk w'.heap b9 [i64c (tokAt c (s.drop (en + 1)) en).1.k, i64c en, S (tokAt c (s.drop (en + 1)) en).1.s, u64c (tokAt c (s.drop (en + 1)) en).1.n, icv e0] 182 ∧ ∃ e, a' = Fr 211 (upds e [(0, ptr sb), (1, S s), (4, U), (5, ptr b5), (6, i64c en'), (9, ptr b9), (21, ptr ri)]) []) ?_ ?_
            · skip
              refine c_block ?_
              refine c_mid (fun a' w' => ∃ (wd : Str) (en' : Nat), SgE s en z (tokAt c (s.drop (en + 1)) en) wd en' ∧ Fram none' u2 w' ∧ Blk w'.heap b9 [i64c 1, i64c en, S [], u64c 0, icv 14] 182 ∧ ∃ e, a' = Fr 211 (upds e [(0, ptr sb), (1, S s), (4, U), (5, ptr b5), (6, i64c en'), (9, ptr b9), (10, S wd), (21, ptr ri)]) []) ?_ ?_
              · skip
                refine c_block ?_
                refine c_mid (fun a' w' => ∃ (tw : UInt8), c.toNat < 128 ∧ tw.toNat < 128 ∧ z = 1 ∧ tkF s en = (if (tokAt c (s.drop (en + 1)) en).1.k = 1 then [(tokAt c (s.drop (en + 1)) en).1] else (tokAt c (s.drop (en + 1)) en).1 :: tkF s (en + (tokAt c (s.drop (en + 1)) en).2)) ∧ (∀ d, twoC c d = decide (d = tw)) ∧ tokAt c (s.drop (en + 1)) en = (sgT (sgnW s en c) en, (sgnW s en c).length) ∧ Fram none' u2 w' ∧ Blk w'.heap b9 [i64c 1, i64c en, S [], u64c 0, icv 14] 182 ∧ ∃ e, a' = Fr 211 (upds e [(0, ptr sb), (1, S s), (4, U), (5, ptr b5), (6, i64c (en + 1)), (7, i64c en), (9, ptr b9), (10, S [c]), (11, u8c tw), (21, ptr ri)]) []) ?_ ?_
                · skip
                  refine c_block ?_
                  refine c_seq (fun K128 hK128 => ?_)
                  refine c_block ?_
                  refine c_seq (fun K129 hK129 => ?_)
                  refine c_block ?_
                  refine c_seq (fun K130 hK130 => ?_)
                  refine c_block ?_
                  refine c_seq (fun K131 hK131 => ?_)
                  refine c_block ?_
                  refine c_seq (fun K132 hK132 => ?_)
                  refine c_block ?_
                  refine c_seq (fun K133 hK133 => ?_)
                  refine c_block ?_
                  refine c_seq (fun K134 hK134 => ?_)
                  refine c_seq (fun K135 hK135 => ?_)
                  refine c_seq (fun K136 hK136 => ?_)
                  refine c_reg ?_ -- region 11 lex.go:74
                  refine wl (ro_move rfl) ?_
                  refine wl (ro_cmp (r := false) rfl rfl (congrArg some (beq_eq_false_iff_ne.2 (by omega)))) ?_
                  refine wl (ro_move rfl) ?_
                  refine wlg_yes rfl (ro_move rfl) ?_
                  refine wlg_yes rfl (ro_cmp (r := false) rfl rfl (congrArg some (beq_eq_false_iff_ne.2 (by omega)))) ?_
                  refine wl (ro_pick rfl rfl rfl) ?_
                  refine wl (ro_move rfl) ?_
                  refine wlg_yes rfl (ro_move rfl) ?_
                  refine wlg_yes rfl (ro_cmp (r := false) rfl rfl (congrArg some (beq_eq_false_iff_ne.2 (by omega)))) ?_
                  refine wl (ro_pick rfl rfl rfl) ?_
                  refine wl (ro_move rfl) ?_
                  refine wlg_yes rfl (ro_move rfl) ?_
                  refine wlg_yes rfl (ro_cmp (r := false) rfl rfl (congrArg some (beq_eq_false_iff_ne.2 (by omega)))) ?_
                  refine wl (ro_pick rfl rfl rfl) ?_
                  refine wl (ro_assign rfl) ?_
                  refine wl_nil (x_then (hK136 _ _ ?_))
                  clear hK136 K136
                  refine wc_condF rfl ?_
                  refine c_skip (x_then (hK135 _ _ ?_))
                  clear hK135 K135
                  refine c_seq (fun K137 hK137 => ?_)
                  refine c_seq (fun K138 hK138 => ?_)
                  refine c_reg ?_ -- region 12 lex.go:76
                  refine wl (ro_move rfl) ?_
                  refine wl (ro_cmp (r := false) rfl rfl (congrArg some (beq_eq_false_iff_ne.2 (by omega)))) ?_
                  refine wl (ro_move rfl) ?_
                  refine wlg_no rfl ?_
                  refine wlg_no rfl ?_
                  refine wlg_no rfl ?_
                  refine wlg_no rfl ?_
                  refine wlg_no rfl ?_
                  refine wlg_no rfl ?_
                  refine wlg_no rfl ?_
                  refine wlg_no rfl ?_
                  refine wlg_no rfl ?_
                  refine wlg_no rfl ?_
                  refine wl (ro_pick rfl rfl rfl) ?_
                  refine wl (ro_assign rfl) ?_
                  refine wl_nil (x_then (hK138 _ _ ?_))
                  clear hK138 K138
                  refine wc_condF rfl ?_
                  refine c_skip (x_then (hK137 _ _ ?_))
                  clear hK137 K137
                  refine c_seq (fun K139 hK139 => ?_)
                  refine c_seq (fun K140 hK140 => ?_)
                  have hsp : isSp c = false := Bool.eq_false_iff.2 (fun q => by have := (isSp_iff c).1 q; omega)
                  have hT0 := tkF_tok hc0 hsp hcm
                  refine c_reg ?_ -- region 13 lex.go:79
                  refine wl (ro_move rfl) ?_
                  refine wl_call rfl en_128 (letter128) ?_
                  rintro _ u0 ⟨rfl, hw0⟩
                  rw [hw0, decide_eq_false (by omega)]
                  clear hw0 u0
                  refine wl (ro_assign rfl) ?_
                  refine wl_nil (x_then (hK140 _ _ ?_))
                  clear hK140 K140
                  refine wc_condF rfl ?_
                  refine c_skip (x_then (hK139 _ _ ?_))
                  clear hK139 K139
                  refine c_seq (fun K141 hK141 => ?_)
                  refine c_seq (fun K142 hK142 => ?_)
                  have hnl : isLet c = false := Bool.eq_false_iff.2 (fun q => by have := (isLet_iff c).1 q; omega)
                  refine c_reg ?_ -- region 14 lex.go:85
                  refine wl (ro_move rfl) ?_
                  refine wl (ro_cmp (r := true) rfl rfl (congrArg some (decide_eq_true (by omega)))) ?_
                  refine wl (ro_move rfl) ?_
                  refine wlg_yes rfl (ro_move rfl) ?_
                  refine wlg_yes rfl (ro_cmp (r := false) rfl rfl (congrArg some (decide_eq_false (by omega)))) ?_
                  refine wl (ro_pick rfl rfl rfl) ?_
                  refine wl (ro_assign rfl) ?_
                  refine wl_nil (x_then (hK142 _ _ ?_))
                  clear hK142 K142
                  refine wc_condF rfl ?_
                  refine c_skip (x_then (hK141 _ _ ?_))
                  clear hK141 K141
                  refine c_seq (fun K143 hK143 => ?_)
                  refine c_seq (fun K144 hK144 => ?_)
                  have hnd : isDig c = false := Bool.eq_false_iff.2 (fun q => by have := (isDig_iff c).1 q; omega)
                  refine c_reg ?_ -- region 15 lex.go:92
                  refine wl (ro_move rfl) ?_
                  refine wl (ro_cmp (r := false) rfl rfl (congrArg some (beq_eq_false_iff_ne.2 (by omega)))) ?_
                  refine wl (ro_assign rfl) ?_
                  refine wl_nil (x_then (hK144 _ _ ?_))
                  clear hK144 K144
                  refine wc_condF rfl ?_
                  refine c_skip (x_then (hK143 _ _ ?_))
                  clear hK143 K143
                  refine c_seq (fun K145 hK145 => ?_)
                  refine c_seq (fun K146 hK146 => ?_)
                  have hn34 : c ≠ 34 := fun e => by
                    have : c.toNat = 34 := by rw [e]; rfl
                    omega
                  have hA := tok_sgn (s := s) (p := en) hnl hnd hn34
                  refine c_reg ?_ -- region 16 lex.go:98
                  refine wl (ro_move rfl) ?_
                  refine wl (ro_cmp (r := false) rfl rfl (congrArg some (beq_eq_false_iff_ne.2 (by omega)))) ?_
                  refine wl (ro_move rfl) ?_
                  refine wlg_yes rfl (ro_move rfl) ?_
                  refine wlg_yes rfl (ro_cmp (r := false) rfl rfl (congrArg some (beq_eq_false_iff_ne.2 (by omega)))) ?_
                  refine wl (ro_pick rfl rfl rfl) ?_
                  refine wl (ro_assign rfl) ?_
                  refine wl_nil (x_then (hK146 _ _ ?_))
                  clear hK146 K146
                  refine wc_condF rfl ?_
                  refine c_skip (x_then (hK145 _ _ ?_))
                  clear hK145 K145
                  refine forget [(0, _), (1, _), (4, _), (5, _), (6, _), (7, _), (8, _), (9, _), (10, _), (11, _), (21, _), (39, _), (40, _), (43, _), (44, _), (47, _), (48, _), (72, _), (73, _), (82, _), (83, _)] ⟨rfl, rfl, rfl, rfl, rfl, rfl, rfl, rfl, rfl, rfl, rfl, rfl, rfl, rfl, rfl, rfl, rfl, rfl, rfl, rfl, rfl, trivial⟩ (fun e => ?_)
                  refine c_seq (fun K147 hK147 => ?_)
                  refine c_reg ?_ -- region 17 lex.go:101
                  refine wl (ro_move rfl) ?_
                  refine wl (ro_cmp (r := false) rfl rfl (congrArg some (beq_eq_false_iff_ne.2 (by omega)))) ?_
                  refine wl (ro_move rfl) ?_
                  refine wlg_yes rfl (ro_move rfl) ?_
                  refine wlg_yes rfl (ro_cmp (r := false) rfl rfl (congrArg some (beq_eq_false_iff_ne.2 (by omega)))) ?_
                  refine wl (ro_pick rfl rfl rfl) ?_
                  refine wl (ro_move rfl) ?_
                  refine wlg_yes rfl (ro_move rfl) ?_
                  refine wlg_yes rfl (ro_cmp (r := false) rfl rfl (congrArg some (beq_eq_false_iff_ne.2 (by omega)))) ?_
                  refine wl (ro_pick rfl rfl rfl) ?_
                  refine wl (ro_move rfl) ?_
                  refine wlg_yes rfl (ro_move rfl) ?_
                  refine wlg_yes rfl (ro_cmp (r := false) rfl rfl (congrArg some (beq_eq_false_iff_ne.2 (by omega)))) ?_
                  refine wl (ro_pick rfl rfl rfl) ?_
                  refine wl (ro_assign rfl) ?_
                  refine wl_nil (x_then (hK147 _ _ ?_))
                  clear hK147 K147
                  refine wc_condF rfl ?_
                  refine c_skip (x_then (hK134 _ _ ?_))
                  clear hK134 K134
                  refine c_exit (x_blkY rfl (x_thenX (x_blkY rfl (x_thenX (x_blkY rfl (x_thenX (x_blkY rfl (x_thenX (x_blkY rfl (x_thenX (x_blkY rfl (x_thenX (x_blkY rfl (x_thenX (x_blkX (x_then ?_))))))))))))))))
                  obtain ⟨c', q', e1, e2⟩ := encL_hi hr1 hr2
                  refine ⟨encL r, en + 1, ⟨hT0, ?_, fun h => absurd (by rw [hi_tok hhi]) h⟩, hL, h9, kp _ ⟨rfl, rfl, rfl, rfl, rfl, rfl, rfl, rfl, trivial⟩⟩
                  rw [hi_tok hhi, e1]
                  unfold sgT
                  rw [sgn_hi e2]
                clear hF hX h5 hL h9
                rintro a' u3 ⟨tw, hlo', htlo, hz', hT0, htw, hA, hL, h9, e, rfl⟩
                have hX := hL.blkN hX2
                have h5 := hL.blkN h52
                have hF := hF2.thenN hL
                refine c_seq (fun K148 hK148 => ?_)
                refine c_reg ?_ -- region 33 lex.go:102
                refine wl (ro_move rfl) ?_
                refine wl (ro_move rfl) ?_
                refine wl (ro_lenS rfl st_9) ?_
                refine wl (ro_cmp rfl rfl rfl) ?_
                refine wl_fork rfl (fun hg178 => ?_) (fun hg178 => ?_)
                · try simp only [decide_eq_true_eq, decide_eq_false_iff_not, Bool.not_eq_true', Bool.not_eq_false', Bool.not_eq_eq_eq_not, Bool.not_true, Bool.not_false, beq_iff_eq, bne_iff_ne, ne_eq, beq_eq_false_iff_ne, bne_eq_false_iff_eq, gt_iff_lt, ge_iff_le, Int.not_lt, Int.not_le] at hg178
                  obtain ⟨c1, hc1⟩ : ∃ c1, s[en + 1]? = some c1 := ⟨_, List.getElem?_eq_getElem (by omega)⟩
                  refine wlg_yes rfl (ro_move rfl) ?_
                  refine wlg_yes rfl (ro_move rfl) ?_
                  refine wlg_yes rfl (ro_indexS rfl rfl st_9 rfl (hc1)) ?_
                  refine wlg_yes rfl (ro_move rfl) ?_
                  refine wlg_yes rfl (ro_cmp rfl rfl rfl) ?_
                  refine wl (ro_pick rfl rfl rfl) ?_
                  refine wl_nil (x_then (hK148 _ _ ?_))
                  clear hK148 K148
                  refine wc_cond rfl (fun hc184 => ?_) (fun hc184 => ?_)
                  · try simp only [decide_eq_true_eq, decide_eq_false_iff_not, Bool.not_eq_true', Bool.not_eq_false', Bool.not_eq_eq_eq_not, Bool.not_true, Bool.not_false, beq_iff_eq, bne_iff_ne, ne_eq, beq_eq_false_iff_ne, bne_eq_false_iff_eq, gt_iff_lt, ge_iff_le, Int.not_lt, Int.not_le] at hc184
                    refine c_seq (fun K149 hK149 => ?_)
                    refine c_reg ?_ -- region 34 lex.go:103
                    refine wl (ro_move rfl) ?_
                    refine wl (ro_arith rfl rfl rfl (Go.IntWalk.i64_in _ (by omega))) ?_
                    refine wl (ro_assign rfl) ?_
                    refine wl_nil (x_then (hK149 _ _ ?_))
                    clear hK149 K149
                    refine c_reg ?_ -- region 35 lex.go:104
                    refine wl (ro_move rfl) ?_
                    refine wl (ro_move rfl) ?_
                    refine wl (ro_move rfl) ?_
                    refine wl (ro_sliceSLH (l := en) (h := en + 2) rfl rfl rfl st_9 rfl rfl (by omega) (by omega)) ?_
                    refine wl (ro_assign rfl) ?_
                    refine wl_nil (x_blk (x_then ?_))
                    have hd1 : c1 = tw := UInt8.toNat_inj.1 (by omega)
                    have hw1 : sgnW s en c = [c, c1] := by unfold sgnW; rw [hc1]; simp only; rw [if_pos (by rw [htw]; exact decide_eq_true hd1)]
                    have hsl : (s.drop en).take (en + 2 - en) = [c, c1] := by rw [Nat.add_sub_cancel_left, drop_cons hc0, drop_cons hc1]; rfl
                    rw [hw1] at hA
                    rw [hsl]
                    exact ⟨[c, c1], en + 2, ⟨hT0, by rw [hA], fun _ => ⟨by rw [hA]; rfl, by omega, Rch.last (c := c1) hc1 (by rw [hd1]; exact htlo) (by omega) (by omega)⟩⟩, hL, h9, kp _ ⟨rfl, rfl, rfl, rfl, rfl, rfl, rfl, rfl, trivial⟩⟩
                  · try simp only [decide_eq_true_eq, decide_eq_false_iff_not, Bool.not_eq_true', Bool.not_eq_false', Bool.not_eq_eq_eq_not, Bool.not_true, Bool.not_false, beq_iff_eq, bne_iff_ne, ne_eq, beq_eq_false_iff_ne, bne_eq_false_iff_eq, gt_iff_lt, ge_iff_le, Int.not_lt, Int.not_le] at hc184
                    refine c_skip (x_blk (x_then ?_))
                    have hd1 : c1 ≠ tw := fun h => by subst h; exact hc184 rfl
                    have hw1 : sgnW s en c = [c] := by unfold sgnW; rw [hc1]; simp only; rw [if_neg (by rw [htw]; simpa using hd1)]
                    rw [hw1] at hA
                    exact ⟨[c], en + 1, ⟨hT0, by rw [hA], fun _ => ⟨by rw [hA]; rfl, by omega, .inr ⟨by omega, .inl (by omega)⟩⟩⟩, hL, h9, kp _ ⟨rfl, rfl, rfl, rfl, rfl, rfl, rfl, rfl, trivial⟩⟩
                · try simp only [decide_eq_true_eq, decide_eq_false_iff_not, Bool.not_eq_true', Bool.not_eq_false', Bool.not_eq_eq_eq_not, Bool.not_true, Bool.not_false, beq_iff_eq, bne_iff_ne, ne_eq, beq_eq_false_iff_ne, bne_eq_false_iff_eq, gt_iff_lt, ge_iff_le, Int.not_lt, Int.not_le] at hg178
                  refine wlg_no rfl ?_
                  refine wlg_no rfl ?_
                  refine wlg_no rfl ?_
                  refine wlg_no rfl ?_
                  refine wlg_no rfl ?_
                  refine wl (ro_pick rfl rfl rfl) ?_
                  refine wl_nil (x_then (hK148 _ _ ?_))
                  clear hK148 K148
                  refine wc_condF rfl ?_
                  refine c_skip (x_blk (x_then ?_))
                  have hw1 : sgnW s en c = [c] := by unfold sgnW; rw [List.getElem?_eq_none (by omega)]
                  rw [hw1] at hA
                  exact ⟨[c], en + 1, ⟨hT0, by rw [hA], fun _ => ⟨by rw [hA]; rfl, by omega, .inr ⟨by omega, .inl (by omega)⟩⟩⟩, hL, h9, kp _ ⟨rfl, rfl, rfl, rfl, rfl, rfl, rfl, rfl, trivial⟩⟩
              clear hF hX h5 hL h9
              rintro a' u3 ⟨wd, en', hE, hL, h9, e, rfl⟩
              have hX := hL.blkN hX2
              have h5 := hL.blkN h52
              have hF := hF2.thenN hL
              refine c_seq (fun K150 hK150 => ?_)
              refine c_seq (fun K151 hK151 => ?_)
              refine c_reg ?_ -- region 36 lex.go:108
              refine wl (ro_move rfl) ?_
              refine wl_call rfl en_133 (sign133 (hGf hF)) ?_
              rintro _ u0 ⟨rfl, hw0⟩
              rw [hw0]
              clear hw0 u0
              refine wl (ro_fieldAddr (k := 0) rfl fo_182_0) ?_
              refine wl_put rfl rfl rfl sz_180 h9 (by simp) (rfl) (fun w34 h9 F34 => ?_)
              replace hF := hF.thenDrew.thenO F34 (by first | exact .inr (by omega) | exact .inl rfl | exact .inl (by assumption) | assumption)
              replace hX := F34.blkO hX (by omega)
              replace h5 := F34.blkO h5 (by omega)
              replace hL := hL.thenDrew.thenO F34 (by first | exact .inr (by omega) | exact .inl rfl | exact .inl (by assumption) | assumption)
              refine wl_nil (x_then (hK151 _ _ ?_))
              clear hK151 K151
              refine c_reg ?_ -- region 37 lex.go:109
              refine wl (ro_fieldAddr (k := 4) rfl fo_182_4) ?_
              refine wl_put rfl rfl rfl sz_54 h9 (by simp) (rfl) (fun w35 h9 F35 => ?_)
              replace hF := hF.thenDrew.thenO F35 (by first | exact .inr (by omega) | exact .inl rfl | exact .inl (by assumption) | assumption)
              replace hX := F35.blkO hX (by omega)
              replace h5 := F35.blkO h5 (by omega)
              replace hL := hL.thenDrew.thenO F35 (by first | exact .inr (by omega) | exact .inl rfl | exact .inl (by assumption) | assumption)
              refine wl_nil (x_then (hK150 _ _ ?_))
              clear hK150 K150
              refine c_exit (x_blkX (x_then ?_))
              refine ⟨13, en', ⟨hE.tf, fun hk => ?_, fun hk => ?_⟩, hL, ?_, kp _ ⟨rfl, rfl, rfl, rfl, rfl, rfl, rfl, trivial⟩⟩
              · rw [hE.tk] at hk ⊢; rw [(sgT_e wd en).1 hk]; rfl
              · have := hE.ok hk
                refine ⟨?_, this⟩
                rw [hE.tk] at hk ⊢
                exact (sgT_e wd en).2 hk
              · rw [hE.tk, sgT_k, sgT_s, sgT_n]; exact h9
            clear hF hX h5 hL h9
            rintro a' u3 ⟨e0, en', hE, hL, h9, e, rfl⟩
            have hM : Fram (one b5) u2 u3 := hL.mono (fun _ _ h => h.elim)
            have hX := hL.blkN hX2
            have h5 := hL.blkN h52
            have hF := hF2.thenN hL
            refine c_seq (fun K152 hK152 => ?_)
            refine c_seq (fun K153 hK153 => ?_)
            refine c_reg ?_ -- region 38 lex.go:111
            refine wl (ro_fieldAddr (k := 0) rfl fo_182_0) ?_
            refine wl (ro_loadB rfl sc_180 (by assumption) rfl) ?_
            refine wl (ro_cmp rfl rfl rfl) ?_
            refine wl_nil (x_then (hK153 _ _ ?_))
            clear hK153 K153
            refine wc_cond rfl (fun hc197 => ?_) (fun hc197 => ?_)
            · try simp only [decide_eq_true_eq, decide_eq_false_iff_not, Bool.not_eq_true', Bool.not_eq_false', Bool.not_eq_eq_eq_not, Bool.not_true, Bool.not_false, beq_iff_eq, bne_iff_ne, ne_eq, beq_eq_false_iff_ne, bne_eq_false_iff_eq, gt_iff_lt, ge_iff_le, Int.not_lt, Int.not_le] at hc197
              have hk1 : (tokAt c (s.drop (en + 1)) en).1.k = 1 := by omega
              have hU3 := hU2.fram hL (fun _ _ h => h)
              refine c_seq (fun K154 hK154 => ?_)
              refine c_reg ?_ -- region 39 lex.go:112
              refine wl (ro_loadAggB rfl ag_182 (by assumption) rfl rfl) ?_
              refine wl_puta rfl rfl ((by simp [Value.oneCell', i64c, icv, u64c, S])) sz_182 (rfl) h5 ((by simp [tkc])) (rfl) (fun w36 h5 F36 => ?_)
              replace hF := hF.thenDrew.thenO F36 (by first | exact .inr (by omega) | exact .inl rfl | exact .inl (by assumption) | assumption)
              replace hX := F36.blkO hX (by omega)
              replace hM := hM.thenDrew.thenO F36 (by first | exact .inr (by omega) | exact .inl rfl | exact .inl (by assumption) | assumption)
              replace h9 := F36.blkO h9 (by omega)
              refine wl_nil (x_then (hK154 _ _ ?_))
              clear hK154 K154
              refine c_exit (x_thenX (x_blkY rfl (x_thenX (x_blkX (x_then ?_)))))
              refine ⟨acc, (tokAt c (s.drop (en + 1)) en).1, U, by rw [htk, hE.tf, if_pos hk1], by omega, ⟨hF, hX, ?_, hU2.fram hM (fun b hb he => n5 (he ▸ hb)), n5, nt⟩, kp _ ⟨rfl, rfl, rfl, trivial⟩⟩
              have hb := hE.bad hk1
              unfold tkc
              rw [tokAt_pl]
              rw [hb] at h5
              exact h5
            · try simp only [decide_eq_true_eq, decide_eq_false_iff_not, Bool.not_eq_true', Bool.not_eq_false', Bool.not_eq_eq_eq_not, Bool.not_true, Bool.not_false, beq_iff_eq, bne_iff_ne, ne_eq, beq_eq_false_iff_ne, bne_eq_false_iff_eq, gt_iff_lt, ge_iff_le, Int.not_lt, Int.not_le] at hc197
              refine c_skip (x_then (hK152 _ _ ?_))
              clear hK152 K152
              refine forget [(0, _), (1, _), (4, _), (5, _), (6, _), (9, _), (21, _)] ⟨rfl, rfl, rfl, rfl, rfl, rfl, rfl, trivial⟩ (fun e => ?_)
              refine c_seq (fun K155 hK155 => ?_)
              refine c_reg ?_ -- region 40 lex.go:115
              refine wl (ro_fieldAddr (k := 4) rfl fo_182_4) ?_
              refine wl_put rfl rfl rfl sz_54 h9 (by simp) (rfl) (fun w37 h9 F37 => ?_)
              replace hF := hF.thenDrew.thenO F37 (by first | exact .inr (by omega) | exact .inl rfl | exact .inl (by assumption) | assumption)
              replace hX := F37.blkO hX (by omega)
              replace h5 := F37.blkO h5 (by omega)
              replace hL := hL.thenDrew.thenO F37 (by first | exact .inr (by omega) | exact .inl rfl | exact .inl (by assumption) | assumption)
              replace hM := hM.thenDrew.thenO F37 (by first | exact .inr (by omega) | exact .inl rfl | exact .inl (by assumption) | assumption)
              refine wl_nil (x_then (hK155 _ _ ?_))
              clear hK155 K155
              refine c_reg ?_ -- region 41 lex.go:116
              refine wl (ro_move rfl) ?_
              refine wl (ro_loadAggB rfl ag_182 (by assumption) rfl rfl) ?_
              refine wl_bsapp (t := 76) (et := 182) (k := 5) (cs := [i64c (tokAt c (s.drop (en + 1)) en).1.k, i64c en, S (tokAt c (s.drop (en + 1)) en).1.s, u64c (tokAt c (s.drop (en + 1)) en).1.n, i64c 0]) rfl rfl rfl rfl se_76 zx_182 by_182 rfl rfl rfl (by simp [Value.oneCell', i64c, u64c, S]) (hU2.fram hL (fun _ _ h => h)) (by omega) (by omega) ?_
              intro v' u5 hon G5 hnb
              have hU4 := hU2.fram hL (fun _ _ h => h)
              have hI4 := hIt2.fram hL (fun h => h)
              replace hF := hF.trans' G5 (fun k hk q => .inr (nt k q hk))
              have hszw := hF2.thenN hL |>.size
              have hszu := hL.size
              have h5l := h5.lt
              replace hX := G5.blkF hX (hU4.neT hX (by decide))
              replace h5 := G5.blkF h5 n5
              have hI5 := hI4.fram G5 (hI4.own_ne hU4)
              have hk1 : (tokAt c (s.drop (en + 1)) en).1.k ≠ 1 := by omega
              obtain ⟨q1, q2, q3, q4⟩ := hE.ok hk1
              have hcs : [i64c (tokAt c (s.drop (en + 1)) en).1.k, i64c en, S (tokAt c (s.drop (en + 1)) en).1.s, u64c (tokAt c (s.drop (en + 1)) en).1.n, i64c 0] = tkc (tokAt c (s.drop (en + 1)) en).1 := by unfold tkc; rw [q1, tokAt_pl]
              rw [hcs, ← rws_one (enc := tkc), ← rws_app] at hon
              have hp1 := tokAt_pos c (s.drop (en + 1)) en
              skip
              refine wl (ro_assign rfl) ?_
              refine wl_nil (x_blk (x_then ?_))
              refine ⟨s.length - (en + z), by omega, en + z, en', acc ++ [(tokAt c (s.drop (en + 1)) en).1], v', rfl, q4, q3, by rw [htk, hE.tf, if_neg hk1, q2]; simp, by rw [List.length_append]; simp only [List.length_cons, List.length_nil]; omega, hI5, ⟨hF, hX, h5, ?_, fun hb => ?_, fun b hb hlt => ?_⟩, kp _ ⟨rfl, rfl, rfl, rfl, rfl, rfl, trivial⟩⟩
              · rw [List.length_append]; exact hon
              · rcases hnb _ hb with h | h
                · exact n5 h
                · omega
              · rcases hnb _ hb with h | h
                · exact nt b h hlt
                · omega
    clear hX h5 hF hF0
    rintro a' u9 ⟨acc, last, U, htk, hal, ⟨hF, hX, h5, hU, n5, nt⟩, e, rfl⟩
    refine c_reg ?_ -- region 42 lex.go:118
    refine wl (ro_move rfl) ?_
    refine wl (ro_move rfl) ?_
    refine wl (ro_loadAggB rfl ag_182 (by assumption) rfl rfl) ?_
    refine wl_bsapp (t := 76) (et := 182) (k := 5) (cs := tkc last) rfl rfl rfl rfl se_76 zx_182 by_182 rfl rfl rfl (tkc_one last) hU (by omega) (by omega) ?_
    intro v' u5 hon G5 hnb
    obtain ⟨a', cap', rfl⟩ := hon.form
    have hneU := hU.neT hX (by decide)
    have hXl := hX.lt
    have hszw := hF.size
    replace hF := hF.trans' G5 (fun k hk q => .inr (nt k q hk))
    replace hX := G5.blkF hX hneU
    rw [← rws_one (enc := tkc), ← rws_app, ← htk] at hon
    skip
    refine wl (ro_nilCheck rfl) ?_
    refine wl (ro_fieldAddr (k := 1) rfl fo_79_1) ?_
    refine wl_put rfl rfl rfl sz_76 hX ((by simp)) (rfl) (fun w38 hX F38 => ?_)
    replace hF := hF.thenDrew.thenO F38 (by first | exact .inr (by omega) | exact .inl rfl | exact .inl (by assumption) | assumption)
    have hon2 := hon.fram F38 (fun b hb he => by cases he; rcases hnb _ hb with h | h; exact hneU h; omega)
    refine wl_nil (x_sc ?_)
    refine bp_end Tryz.results75 rfl ?_
    refine ⟨rfl, _, Go.Proofs.Qxb6500568aGreatDoor.nw ow w.heap.size 61, Xt.nw (Nat.le_refl _), hX, ⟨?_, fun b hb => ?_⟩, hF⟩
    · rw [htk, List.length_append]; rw [htk] at hon2; exact hon2
    · rcases Nat.lt_or_ge b w.heap.size with q | q
      · rw [nw_old q]
        rcases hnb _ hb with h | h
        · exact nt b h q
        · omega
      · exact nw_new q
  intro l m a' w' hJ rest hr
  · skip
    exact hJ.elim
end Go.Proofs.Qxb6500568aGreatDoor
