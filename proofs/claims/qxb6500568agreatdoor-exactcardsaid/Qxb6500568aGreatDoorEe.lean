import Derived.Test.Qxb6500568aGreatDoorEd
/- The real scanner. -/
namespace Go.Proofs.Qxb6500568aGreatDoor
open Ieee
set_option linter.unusedVariables false
set_option linter.unusedSimpArgs false

/-- A token's cells. -/
def tkc (t : Tok) : List Value := [i64c t.k, i64c t.pl, S t.s, u64c t.n, i64c t.e]
theorem tkc_len (t : Tok) : (tkc t).length = 5 := rfl
theorem tkc_one (t : Tok) : ∀ u ∈ tkc t, u.oneCell' = true := by simp [tkc, Value.oneCell', i64c, u64c, S]
/-- The runes from pos on come to the place 'end'. -/
def Rch (s : Str) (pos en : Nat) : Prop := s.length ≤ en ∨ (pos ≤ en ∧ (pos = en ∨ (∃ c : UInt8, s[en]? = some c ∧ c.toNat < 128) ∨ ∃ c : UInt8, s[en - 1]? = some c ∧ c.toNat < 128 ∧ 0 < en))
theorem Rch.step {s : Str} {pos en : Nat} (h : Rch s pos en) (hp : pos < s.length) (hlt : pos < en) : Rch s (pos + (Utf8.decode ⟨s.toArray⟩ pos).2) en := by
  rcases h with h | ⟨h1, h2⟩
  · exact .inl h
  · rcases Nat.lt_or_ge en s.length with hen | hen
    · right
      obtain ⟨c, hc⟩ : ∃ c, s[pos]? = some c := ⟨_, List.getElem?_eq_getElem hp⟩
      have h3 : (∃ c : UInt8, s[en]? = some c ∧ c.toNat < 128) ∨ ∃ c : UInt8, s[en - 1]? = some c ∧ c.toNat < 128 ∧ 0 < en := by
        rcases h2 with h2 | h2
        · omega
        · exact h2
      refine ⟨?_, .inr h3⟩
      rcases Nat.lt_or_ge c.toNat 128 with hlo | hhi
      · rw [dec_asc hc hlo]; exact hlt
      · obtain ⟨d1, d2, d3, d4⟩ := dec_hi hc hhi
        rcases Nat.lt_or_ge en (pos + (Utf8.decode ⟨s.toArray⟩ pos).2) with q | q
        · exfalso
          obtain ⟨x, hx1, hx2⟩ := d4 (en - pos) (by omega) (by omega)
          rw [show pos + (en - pos) = en by omega] at hx1
          rcases h3 with ⟨y, hy1, hy2⟩ | ⟨y, hy1, hy2, hy3⟩
          · rw [hx1] at hy1; cases hy1; omega
          · by_cases he : en - 1 = pos
            · rw [he, hc] at hy1; cases hy1; omega
            · obtain ⟨z, hz1, hz2⟩ := d4 (en - 1 - pos) (by omega) (by omega)
              rw [show pos + (en - 1 - pos) = en - 1 by omega, hy1] at hz1
              cases hz1; omega
        · exact q
    · exact .inl hen
theorem letter128 {w : World} {r : Int} : Ret Tryz.prog 128 [.int .i32 r] w (fun v w' => v = .bool (decide ((97 ≤ r ∧ r ≤ 122) ∨ (65 ≤ r ∧ r ≤ 90) ∨ r = 95)) ∧ w' = w) := by
  refine ret_of Tryz.func128 rfl Tryz.ntmps128 rfl ?_
  refine c_seq (fun K1 hK1 => ?_)
  refine c_reg ?_ -- region 0 lex.go:5
  refine wl (ro_assign rfl) ?_
  refine wl_nil (x_then (hK1 _ _ ?_))
  clear hK1 K1
  refine forget [(0, _)] ⟨rfl, trivial⟩ (fun e => ?_)
  refine c_seq (fun K2 hK2 => ?_)
  refine c_reg ?_ -- region 1 lex.go:5
  refine wl (ro_move rfl) ?_
  refine wl (ro_cmp rfl rfl rfl) ?_
  refine wl_fork rfl (fun hg5 => ?_) (fun hg5 => ?_)
  · try simp only [decide_eq_true_eq, decide_eq_false_iff_not, Bool.not_eq_true', Bool.not_eq_false', Bool.not_eq_eq_eq_not, Bool.not_true, Bool.not_false, beq_iff_eq, bne_iff_ne, ne_eq, beq_eq_false_iff_ne, bne_eq_false_iff_eq, gt_iff_lt, ge_iff_le, Int.not_lt, Int.not_le] at hg5
    refine wlg_yes rfl (ro_move rfl) ?_
    refine wlg_yes rfl (ro_cmp rfl rfl rfl) ?_
    refine wl (ro_pick rfl rfl rfl) ?_
    refine wl_fork rfl (fun hg9 => ?_) (fun hg9 => ?_)
    · try simp only [decide_eq_true_eq, decide_eq_false_iff_not, Bool.not_eq_true', Bool.not_eq_false', Bool.not_eq_eq_eq_not, Bool.not_true, Bool.not_false, beq_iff_eq, bne_iff_ne, ne_eq, beq_eq_false_iff_ne, bne_eq_false_iff_eq, gt_iff_lt, ge_iff_le, Int.not_lt, Int.not_le] at hg9
      refine wlg_no rfl ?_
      refine wlg_no rfl ?_
      refine wlg_no rfl ?_
      refine wlg_no rfl ?_
      refine wlg_no rfl ?_
      refine wlg_no rfl ?_
      refine wl (ro_pick rfl rfl rfl) ?_
      refine wl (ro_move rfl) ?_
      refine wlg_no rfl ?_
      refine wlg_no rfl ?_
      refine wl (ro_pick rfl rfl rfl) ?_
      refine wl (ro_assign rfl) ?_
      refine wl_nil (x_then (hK2 _ _ ?_))
      clear hK2 K2
      refine c_ret ?_
      refine bp_ret Tryz.results128 rfl ?_
      refine ⟨congrArg Value.bool ?_, rfl⟩
      rw [Bool.eq_iff_iff]
      simp
      omega
    · try simp only [decide_eq_true_eq, decide_eq_false_iff_not, Bool.not_eq_true', Bool.not_eq_false', Bool.not_eq_eq_eq_not, Bool.not_true, Bool.not_false, beq_iff_eq, bne_iff_ne, ne_eq, beq_eq_false_iff_ne, bne_eq_false_iff_eq, gt_iff_lt, ge_iff_le, Int.not_lt, Int.not_le] at hg9
      refine wlg_yes rfl (ro_move rfl) ?_
      refine wlg_yes rfl (ro_cmp rfl rfl rfl) ?_
      refine wlg_fork rfl rfl (fun hg12 => ?_) (fun hg12 => ?_)
      · try simp only [decide_eq_true_eq, decide_eq_false_iff_not, Bool.not_eq_true', Bool.not_eq_false', Bool.not_eq_eq_eq_not, Bool.not_true, Bool.not_false, beq_iff_eq, bne_iff_ne, ne_eq, beq_eq_false_iff_ne, bne_eq_false_iff_eq, gt_iff_lt, ge_iff_le, Int.not_lt, Int.not_le] at hg12
        refine wlg_yes rfl (ro_move rfl) ?_
        refine wlg_yes rfl (ro_cmp rfl rfl rfl) ?_
        refine wlg_yes rfl (ro_pick rfl rfl rfl) ?_
        refine wl (ro_pick rfl rfl rfl) ?_
        refine wl_fork rfl (fun hg17 => ?_) (fun hg17 => ?_)
        · try simp only [decide_eq_true_eq, decide_eq_false_iff_not, Bool.not_eq_true', Bool.not_eq_false', Bool.not_eq_eq_eq_not, Bool.not_true, Bool.not_false, beq_iff_eq, bne_iff_ne, ne_eq, beq_eq_false_iff_ne, bne_eq_false_iff_eq, gt_iff_lt, ge_iff_le, Int.not_lt, Int.not_le] at hg17
          refine wlg_no rfl ?_
          refine wlg_no rfl ?_
          refine wl (ro_pick rfl rfl rfl) ?_
          refine wl (ro_assign rfl) ?_
          refine wl_nil (x_then (hK2 _ _ ?_))
          clear hK2 K2
          refine c_ret ?_
          refine bp_ret Tryz.results128 rfl ?_
          refine ⟨congrArg Value.bool ?_, rfl⟩
          rw [Bool.eq_iff_iff]
          simp
          omega
        · try simp only [decide_eq_true_eq, decide_eq_false_iff_not, Bool.not_eq_true', Bool.not_eq_false', Bool.not_eq_eq_eq_not, Bool.not_true, Bool.not_false, beq_iff_eq, bne_iff_ne, ne_eq, beq_eq_false_iff_ne, bne_eq_false_iff_eq, gt_iff_lt, ge_iff_le, Int.not_lt, Int.not_le] at hg17
          refine wlg_yes rfl (ro_move rfl) ?_
          refine wlg_yes rfl (ro_cmp rfl rfl rfl) ?_
          refine wl (ro_pick rfl rfl rfl) ?_
          refine wl (ro_assign rfl) ?_
          refine wl_nil (x_then (hK2 _ _ ?_))
          clear hK2 K2
          refine c_ret ?_
          refine bp_ret Tryz.results128 rfl ?_
          refine ⟨congrArg Value.bool ?_, rfl⟩
          rw [Bool.eq_iff_iff]
          simp
          omega
      · try simp only [decide_eq_true_eq, decide_eq_false_iff_not, Bool.not_eq_true', Bool.not_eq_false', Bool.not_eq_eq_eq_not, Bool.not_true, Bool.not_false, beq_iff_eq, bne_iff_ne, ne_eq, beq_eq_false_iff_ne, bne_eq_false_iff_eq, gt_iff_lt, ge_iff_le, Int.not_lt, Int.not_le] at hg12
        refine wlg_no rfl ?_
        refine wlg_no rfl ?_
        refine wlg_yes rfl (ro_pick rfl rfl rfl) ?_
        refine wl (ro_pick rfl rfl rfl) ?_
        refine wl (ro_move rfl) ?_
        refine wlg_yes rfl (ro_move rfl) ?_
        refine wlg_yes rfl (ro_cmp rfl rfl rfl) ?_
        refine wl (ro_pick rfl rfl rfl) ?_
        refine wl (ro_assign rfl) ?_
        refine wl_nil (x_then (hK2 _ _ ?_))
        clear hK2 K2
        refine c_ret ?_
        refine bp_ret Tryz.results128 rfl ?_
        refine ⟨congrArg Value.bool ?_, rfl⟩
        rw [Bool.eq_iff_iff]
        simp
        omega
  · try simp only [decide_eq_true_eq, decide_eq_false_iff_not, Bool.not_eq_true', Bool.not_eq_false', Bool.not_eq_eq_eq_not, Bool.not_true, Bool.not_false, beq_iff_eq, bne_iff_ne, ne_eq, beq_eq_false_iff_ne, bne_eq_false_iff_eq, gt_iff_lt, ge_iff_le, Int.not_lt, Int.not_le] at hg5
    refine wlg_no rfl ?_
    refine wlg_no rfl ?_
    refine wl (ro_pick rfl rfl rfl) ?_
    refine wl (ro_move rfl) ?_
    refine wlg_yes rfl (ro_move rfl) ?_
    refine wlg_yes rfl (ro_cmp rfl rfl rfl) ?_
    refine wlg_fork rfl rfl (fun hg12 => ?_) (fun hg12 => ?_)
    · try simp only [decide_eq_true_eq, decide_eq_false_iff_not, Bool.not_eq_true', Bool.not_eq_false', Bool.not_eq_eq_eq_not, Bool.not_true, Bool.not_false, beq_iff_eq, bne_iff_ne, ne_eq, beq_eq_false_iff_ne, bne_eq_false_iff_eq, gt_iff_lt, ge_iff_le, Int.not_lt, Int.not_le] at hg12
      refine wlg_yes rfl (ro_move rfl) ?_
      refine wlg_yes rfl (ro_cmp rfl rfl rfl) ?_
      refine wlg_yes rfl (ro_pick rfl rfl rfl) ?_
      refine wl (ro_pick rfl rfl rfl) ?_
      refine wl_fork rfl (fun hg17 => ?_) (fun hg17 => ?_)
      · try simp only [decide_eq_true_eq, decide_eq_false_iff_not, Bool.not_eq_true', Bool.not_eq_false', Bool.not_eq_eq_eq_not, Bool.not_true, Bool.not_false, beq_iff_eq, bne_iff_ne, ne_eq, beq_eq_false_iff_ne, bne_eq_false_iff_eq, gt_iff_lt, ge_iff_le, Int.not_lt, Int.not_le] at hg17
        refine wlg_no rfl ?_
        refine wlg_no rfl ?_
        refine wl (ro_pick rfl rfl rfl) ?_
        refine wl (ro_assign rfl) ?_
        refine wl_nil (x_then (hK2 _ _ ?_))
        clear hK2 K2
        refine c_ret ?_
        refine bp_ret Tryz.results128 rfl ?_
        refine ⟨congrArg Value.bool ?_, rfl⟩
        rw [Bool.eq_iff_iff]
        simp
        omega
      · try simp only [decide_eq_true_eq, decide_eq_false_iff_not, Bool.not_eq_true', Bool.not_eq_false', Bool.not_eq_eq_eq_not, Bool.not_true, Bool.not_false, beq_iff_eq, bne_iff_ne, ne_eq, beq_eq_false_iff_ne, bne_eq_false_iff_eq, gt_iff_lt, ge_iff_le, Int.not_lt, Int.not_le] at hg17
        refine wlg_yes rfl (ro_move rfl) ?_
        refine wlg_yes rfl (ro_cmp rfl rfl rfl) ?_
        refine wl (ro_pick rfl rfl rfl) ?_
        refine wl (ro_assign rfl) ?_
        refine wl_nil (x_then (hK2 _ _ ?_))
        clear hK2 K2
        refine c_ret ?_
        refine bp_ret Tryz.results128 rfl ?_
        refine ⟨congrArg Value.bool ?_, rfl⟩
        rw [Bool.eq_iff_iff]
        simp
        omega
    · try simp only [decide_eq_true_eq, decide_eq_false_iff_not, Bool.not_eq_true', Bool.not_eq_false', Bool.not_eq_eq_eq_not, Bool.not_true, Bool.not_false, beq_iff_eq, bne_iff_ne, ne_eq, beq_eq_false_iff_ne, bne_eq_false_iff_eq, gt_iff_lt, ge_iff_le, Int.not_lt, Int.not_le] at hg12
      refine wlg_no rfl ?_
      refine wlg_no rfl ?_
      refine wlg_yes rfl (ro_pick rfl rfl rfl) ?_
      refine wl (ro_pick rfl rfl rfl) ?_
      refine wl (ro_move rfl) ?_
      refine wlg_yes rfl (ro_move rfl) ?_
      refine wlg_yes rfl (ro_cmp rfl rfl rfl) ?_
      refine wl (ro_pick rfl rfl rfl) ?_
      refine wl (ro_assign rfl) ?_
      refine wl_nil (x_then (hK2 _ _ ?_))
      clear hK2 K2
      refine c_ret ?_
      refine bp_ret Tryz.results128 rfl ?_
      refine ⟨congrArg Value.bool ?_, rfl⟩
      rw [Bool.eq_iff_iff]
      simp
      omega
theorem letter_asc {c : UInt8} (h : c.toNat < 128) : decide ((97 ≤ (c.toNat : Int) ∧ (c.toNat : Int) ≤ 122) ∨ (65 ≤ (c.toNat : Int) ∧ (c.toNat : Int) ≤ 90) ∨ (c.toNat : Int) = 95) = isLet c := by
  rw [Bool.eq_iff_iff, isLet_iff, decide_eq_true_eq, or_assoc]

section
variable {P : Program} {n : Nat} {e : Nat → Option Value} {w : World}
def encL (r : Int) : Str := (Utf8.encode r).data.toList
theorem ro_runeS {src dst : TypeId} {x : Operand} {k : IntKind} {r : Int} (hx : evO n e x = some (.int k r)) (hs : scalB P src = true) (hd : strB P dst = true) : RO P n e w (.convert src dst x) (S (encL r)) := by
  intro ds dst' ty ps af g
  have hd' := strB_spec hd
  have hsome : ∃ d, P.underlying src = some d := by
    unfold scalB at hs
    cases hu : P.underlying src with
    | none => rw [hu] at hs; cases hs
    | some d => exact ⟨d, rfl⟩
  obtain ⟨d, hu⟩ := hsome
  have : S (encL r) = .string (Utf8.encode r) := by unfold S encL; simp
  rw [this]
  simp [execOp, evO_eval hx, convert, run_underlying hu, run_underlying hd', Conv.intToString]
end
theorem enc128 : ∀ n, n < 128 → encL ((n : Nat) : Int) = [UInt8.ofNat n] := by decide
theorem encL_asc {c : UInt8} (h : c.toNat < 128) : encL (c.toNat : Int) = [c] := by
  rw [enc128 _ h]
  congr 1
  exact UInt8.ofNat_toNat
def encN (k : Nat) : ByteArray := if k < 128 then (⟨#[UInt8.ofNat k]⟩ : ByteArray) else if k < 2048 then ⟨#[UInt8.ofNat (192 + k / 64), UInt8.ofNat (128 + k % 64)]⟩ else if k < 65536 then ⟨#[UInt8.ofNat (224 + k / 4096), UInt8.ofNat (128 + k / 64 % 64), UInt8.ofNat (128 + k % 64)]⟩ else ⟨#[UInt8.ofNat (240 + k / 262144), UInt8.ofNat (128 + k / 4096 % 64), UInt8.ofNat (128 + k / 64 % 64), UInt8.ofNat (128 + k % 64)]⟩
theorem enc_hiN {k : Nat} (h1 : 128 ≤ k) (h2 : k ≤ 1114111) : ∃ c q, (encN k).data.toList = c :: q ∧ 128 ≤ c.toNat := by
  have hb : ∀ m, m < 256 → (UInt8.ofNat m).toNat = m := fun m hm => by rw [UInt8.toNat_ofNat']; exact Nat.mod_eq_of_lt hm
  unfold encN
  rw [if_neg (by omega)]
  split
  · exact ⟨UInt8.ofNat (192 + k / 64), [UInt8.ofNat (128 + k % 64)], rfl, by rw [hb _ (by omega)]; omega⟩
  · split
    · exact ⟨UInt8.ofNat (224 + k / 4096), [UInt8.ofNat (128 + k / 64 % 64), UInt8.ofNat (128 + k % 64)], rfl, by rw [hb _ (by omega)]; omega⟩
    · exact ⟨UInt8.ofNat (240 + k / 262144), [UInt8.ofNat (128 + k / 4096 % 64), UInt8.ofNat (128 + k / 64 % 64), UInt8.ofNat (128 + k % 64)], rfl, by rw [hb _ (by omega)]; omega⟩
theorem enc_form (r : Int) : Utf8.encode r = encN (if Utf8.valid r = true then r.toNat else Utf8.runeError) := rfl
theorem rerr : 128 ≤ Utf8.runeError ∧ Utf8.runeError ≤ 1114111 := by unfold Utf8.runeError; omega
theorem encL_n (r : Int) : encL r = (encN (if Utf8.valid r = true then r.toNat else Utf8.runeError)).data.toList := by
  unfold encL
  rw [enc_form]
/-- A rune of the high half is spelled by bytes of which the first is of the high half. -/
theorem encL_hi {r : Nat} (h : 128 ≤ r) (h2 : r ≤ 1114111) : ∃ c q, encL (r : Int) = c :: q ∧ 128 ≤ c.toNat := by
  rw [encL_n]
  generalize hv : (if Utf8.valid (r : Int) = true then (r : Int).toNat else Utf8.runeError) = k
  have hb : 128 ≤ k ∧ k ≤ 1114111 := by
    subst hv
    cases Utf8.valid (r : Int) with
    | true => rw [if_pos rfl, Int.toNat_natCast]; exact ⟨h, h2⟩
    | false => rw [if_neg (by decide)]; exact rerr
  exact enc_hiN hb.1 hb.2
theorem sgn_hi {c : UInt8} {q : Str} (h : 128 ≤ c.toNat) : posS (c :: q) sgL = none := by
  unfold posS
  apply posP_no
  intro x hx
  have : ∀ y ∈ sgL, (y.headD 0).toNat < 128 := by decide
  have hy := this x hx
  simp only [decide_eq_false_iff_not]
  intro he
  rw [he] at hy
  simp at hy
  omega

end Go.Proofs.Qxb6500568aGreatDoor
