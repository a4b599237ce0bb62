import Derived.Test.Qxb6500569aGreatSd
/- The model's machine: New, Add, Ask, Next, Show. -/
namespace Go.Proofs.Qxb6500569aGreat
set_option linter.unusedVariables false
set_option linter.unusedSimpArgs false

/-- The model's machine, plainly. -/
structure MSt where
  cls : List Cl2
  opn : Bool
  q : List UInt8
  fuel : Nat
  given : Nat
  st : SSt

def MAll (H : Array Obj) (sb : Nat) (s : MSt) (F : Nat → Prop) : Prop :=
  ∃ mpb VT VC VL, MP H mpb VT VC s.cls ∧ POK s.cls ∧ SM H sb VL ⟨mpb, s.opn, s.q, s.fuel, s.given⟩ s.st ∧ ∀ b, F b ↔ (SFoot sb VL b ∨ MPFoot mpb VT VC b)

theorem MP.typ {H : Array Obj} {mb : Nat} {VT VC : Value} {cls : List Cl2} (h : MP H mb VT VC cls) : TypF [84, 9, 9] (MPFoot mb VT VC) H := h.blk.typ.or (h.txt.typ.or h.cod.typ)

theorem MAll.typ {H : Array Obj} {sb : Nat} {s : MSt} {F : Nat → Prop} (h : MAll H sb s F) : TypF [49, 94, 84, 9, 9] F H := by
  obtain ⟨mpb, VT, VC, VL, h1, h2, h3, h4⟩ := h
  exact (h3.typ.or h1.typ).mono (fun b hb => (h4 b).1 hb) (fun _ h => h)

theorem MAll.fram {G : Nat → Prop} {w w' : World} {sb : Nat} {s : MSt} {F : Nat → Prop} (h : MAll w.heap sb s F) (hf : Fram G w w') (hn : ∀ b, F b → ¬ G b) : MAll w'.heap sb s F := by
  obtain ⟨mpb, VT, VC, VL, h1, h2, h3, h4⟩ := h
  refine ⟨mpb, VT, VC, VL, h1.fram hf (fun b hb => hn b ((h4 b).2 (.inr hb))), h2, ⟨h3.blk.fram hf (hn _ ((h4 _).2 (.inl (.inl rfl)))), h3.own.fram hf (fun b hb => hn b ((h4 b).2 (.inl (.inr hb))))⟩, h4⟩

theorem gset {C : World → Prop} {w0 w : World} {b t : Nat} {l l' : List Value} (hB : Blk w.heap b l t) (hF : Fram (fun x => x = b) w0 w) (h : ∀ w', Blk w'.heap b l' t → Fram (fun x => x = b) w0 w' → C w') : C (w.setRow b l'.toArray) :=
  h _ (hB.set l') (hF.trans (Fram.set w b _ (.inl rfl)))

theorem New7 {w : World} : Ret Tryz.prog 7 [] w (fun r w' => ∃ sb F, r = ptr sb ∧ MAll w'.heap sb ⟨[], false, [], 0, 0, ⟨0, 0, 0, []⟩⟩ F ∧ (∀ b, F b → w.heap.size ≤ b) ∧ Fram none' w w') := by
  refine ret_of Tryz.func7 rfl Tryz.ntmps7 rfl ?_
  refine c_seq (fun K1 hK1 => ?_)
  refine c_reg ?_ -- region 0 solvem.go:22
  refine wl (ro_assign rfl) ?_
  refine wl_nil (x_then (hK1 _ _ ?_))
  clear hK1 K1
  refine forget [] trivial (fun e => ?_)
  refine c_seq (fun K2 hK2 => ?_)
  refine c_reg ?_ -- region 1 solvem.go:22
  refine wl_call rfl en_17 (New17) ?_
  rintro _ w1 ⟨rfl, M1, F1⟩
  refine wl (ro_build rfl bld_49_0) ?_
  refine wle (eo_box rfl rfl) ?_
  have hN := Blk.new w1 [ptr w.heap.size, .bool false, S [], i64c 0, i64c 0, .slice none 0 0, i64c 0, i64c 0, i64c 0] 49
  have M2 := M1.fram (Fram.alloc none' w1 (.cells [ptr w.heap.size, .bool false, S [], i64c 0, i64c 0, .slice none 0 0, i64c 0, i64c 0, i64c 0].toArray 49)) (fun _ _ h => h)
  refine wl (ro_assign rfl) ?_
  refine wl_nil (x_then (hK2 _ _ ?_))
  clear hK2 K2
  refine c_ret ?_
  refine bp_ret Tryz.results7 rfl ?_
  refine ⟨w1.heap.size, fun b => SFoot w1.heap.size (.slice none 0 0) b ∨ MPFoot w.heap.size (.slice none 0 0) (.slice none 0 0) b, rfl, ⟨w.heap.size, _, _, .slice none 0 0, M2, ⟨by simp, by simp, by simp⟩, ⟨hN, Own.nil _ _ _⟩, fun b => Iff.rfl⟩, ?_, F1.thenAlloc⟩
  have := F1.size
  rintro b ((h | h) | (h | h | h))
  · omega
  · cases h
  · omega
  · cases h
  · cases h

def mAddV (s : MSt) (text : List UInt8) : Value := if 40 < text.length then .tuple #[.int .i64 (-1), i64c 1] else if s.opn then .tuple #[.int .i64 (-1), i64c 2] else addV s.cls text
def mAddS (s : MSt) (text : List UInt8) : MSt := if 40 < text.length then s else if s.opn then s else { s with cls := addC s.cls text }

def MPostF (F : Nat → Prop) (sb : Nat) (s' : MSt) (w w' : World) : Prop := ∃ F', MAll w'.heap sb s' F' ∧ (∀ b, F' b → F b ∨ w.heap.size ≤ b) ∧ Fram F w w'

theorem Add19 {w : World} {sb : Nat} {s : MSt} {F : Nat → Prop} (M : MAll w.heap sb s F) (text : List UInt8) :
    Ret Tryz.prog 19 [ptr sb, S text] w (fun r w' => r = mAddV s text ∧ MPostF F sb (mAddS s text) w w') := by
  have M0 := M
  obtain ⟨mpb, VT, VC, VL, h1, h2, h3, h4⟩ := M
  have hB := h3.blk
  by_cases hl : 40 < text.length
  · have e1 : mAddV s text = .tuple #[.int .i64 (-1), i64c 1] := by unfold mAddV; rw [if_pos hl]
    have e2 : mAddS s text = s := by unfold mAddS; rw [if_pos hl]
    rw [e1, e2]
    refine ret_of Tryz.func19 rfl Tryz.ntmps19 rfl ?_
    refine c_seq (fun K1 hK1 => ?_)
    refine c_reg ?_ -- region 0 solvem.go:24
    refine wl (ro_assign rfl) ?_
    refine wl (ro_assign rfl) ?_
    refine wl_nil (x_then (hK1 _ _ ?_))
    clear hK1 K1
    refine c_seq (fun K2 hK2 => ?_)
    refine c_seq (fun K3 hK3 => ?_)
    refine c_reg ?_ -- region 1 solvem.go:25
    refine wl (ro_move rfl) ?_
    refine wl (ro_lenS rfl st_9) ?_
    refine wl (ro_cmp (r := true) rfl rfl (by simp; omega)) ?_
    refine wl_nil (x_then (hK3 _ _ ?_))
    clear hK3 K3
    refine wc_condT rfl ?_
    refine c_seq (fun K4 hK4 => ?_)
    refine c_reg ?_ -- region 2 solvem.go:26
    refine wl (ro_assign rfl) ?_
    refine wl (ro_assign rfl) ?_
    refine wl_nil (x_then (hK4 _ _ ?_))
    clear hK4 K4
    refine c_ret (x_thenR ?_)
    refine bp_ret Tryz.results19 rfl ?_
    exact ⟨rfl, F, M0, fun b h => .inl h, Fram.refl _ _⟩
  · cases ho : s.opn with
    | true =>
      have e1 : mAddV s text = .tuple #[.int .i64 (-1), i64c 2] := by unfold mAddV; rw [if_neg hl, ho]; rfl
      have e2 : mAddS s text = s := by unfold mAddS; rw [if_neg hl, ho]; rfl
      rw [e1, e2]
      simp only [ho] at hB
      refine ret_of Tryz.func19 rfl Tryz.ntmps19 rfl ?_
      refine c_seq (fun K1 hK1 => ?_)
      refine c_reg ?_ -- region 0 solvem.go:24
      refine wl (ro_assign rfl) ?_
      refine wl (ro_assign rfl) ?_
      refine wl_nil (x_then (hK1 _ _ ?_))
      clear hK1 K1
      refine c_seq (fun K2 hK2 => ?_)
      refine c_seq (fun K3 hK3 => ?_)
      refine c_reg ?_ -- region 1 solvem.go:25
      refine wl (ro_move rfl) ?_
      refine wl (ro_lenS rfl st_9) ?_
      refine wl (ro_cmp (r := false) rfl rfl (by simp; omega)) ?_
      refine wl_nil (x_then (hK3 _ _ ?_))
      clear hK3 K3
      refine wc_condF rfl ?_
      refine c_skip (x_then (hK2 _ _ ?_))
      clear hK2 K2
      refine c_seq (fun K4 hK4 => ?_)
      refine c_seq (fun K5 hK5 => ?_)
      refine c_reg ?_ -- region 3 solvem.go:28
      refine wl (ro_move rfl) ?_
      refine wl (ro_nilCheck rfl) ?_
      refine wl (ro_fieldAddr (k := 1) rfl fo_49_1) ?_
      refine wl (ro_loadB rfl sc_4 (by assumption) rfl) ?_
      refine wl_nil (x_then (hK5 _ _ ?_))
      clear hK5 K5
      refine wc_condT rfl ?_
      refine c_seq (fun K6 hK6 => ?_)
      refine c_reg ?_ -- region 4 solvem.go:29
      refine wl (ro_assign rfl) ?_
      refine wl (ro_assign rfl) ?_
      refine wl_nil (x_then (hK6 _ _ ?_))
      clear hK6 K6
      refine c_ret (x_thenR ?_)
      refine bp_ret Tryz.results19 rfl ?_
      exact ⟨rfl, F, M0, fun b h => .inl h, Fram.refl _ _⟩
    | false =>
      have e1 : mAddV s text = addV s.cls text := by unfold mAddV; rw [if_neg hl, ho]; rfl
      have e2 : mAddS s text = { s with cls := addC s.cls text } := by unfold mAddS; rw [if_neg hl, ho]; rfl
      rw [e1, e2]
      simp only [ho] at hB
      have hre : ∃ x y, addV s.cls text = .tuple #[x, y] := by
        unfold addV
        split
        · exact ⟨_, _, rfl⟩
        · split
          · exact ⟨_, _, rfl⟩
          · split <;> exact ⟨_, _, rfl⟩
      obtain ⟨x, y, hxy⟩ := hre
      have hA := Add28 h1 h2 text (by omega)
      unfold MAddPost at hA
      rw [hxy] at hA ⊢
      refine ret_of Tryz.func19 rfl Tryz.ntmps19 rfl ?_
      refine c_seq (fun K1 hK1 => ?_)
      refine c_reg ?_ -- region 0 solvem.go:24
      refine wl (ro_assign rfl) ?_
      refine wl (ro_assign rfl) ?_
      refine wl_nil (x_then (hK1 _ _ ?_))
      clear hK1 K1
      refine c_seq (fun K2 hK2 => ?_)
      refine c_seq (fun K3 hK3 => ?_)
      refine c_reg ?_ -- region 1 solvem.go:25
      refine wl (ro_move rfl) ?_
      refine wl (ro_lenS rfl st_9) ?_
      refine wl (ro_cmp (r := false) rfl rfl (by simp; omega)) ?_
      refine wl_nil (x_then (hK3 _ _ ?_))
      clear hK3 K3
      refine wc_condF rfl ?_
      refine c_skip (x_then (hK2 _ _ ?_))
      clear hK2 K2
      refine c_seq (fun K4 hK4 => ?_)
      refine c_seq (fun K5 hK5 => ?_)
      refine c_reg ?_ -- region 3 solvem.go:28
      refine wl (ro_move rfl) ?_
      refine wl (ro_nilCheck rfl) ?_
      refine wl (ro_fieldAddr (k := 1) rfl fo_49_1) ?_
      refine wl (ro_loadB rfl sc_4 (by assumption) rfl) ?_
      refine wl_nil (x_then (hK5 _ _ ?_))
      clear hK5 K5
      refine wc_condF rfl ?_
      refine c_skip (x_then (hK4 _ _ ?_))
      clear hK4 K4
      refine forget [(0, _), (1, _)] ⟨rfl, rfl, trivial⟩ (fun e => ?_)
      refine c_seq (fun K6 hK6 => ?_)
      refine c_reg ?_ -- region 5 solvem.go:31
      refine wl (ro_move rfl) ?_
      refine wl (ro_nilCheck rfl) ?_
      refine wl (ro_fieldAddr (k := 0) rfl fo_49_0) ?_
      refine wl (ro_loadB rfl sc_44 (by assumption) rfl) ?_
      refine wl (ro_move rfl) ?_
      refine wl_call rfl en_28 (hA) ?_
      rintro _ w1 ⟨rfl, VT', VC', M1, hn, F1⟩
      refine wl (ro_extract rfl rfl) ?_
      refine wl (ro_extract rfl rfl) ?_
      refine wl (ro_assign rfl) ?_
      refine wl (ro_assign rfl) ?_
      refine wl_nil (x_then (hK6 _ _ ?_))
      clear hK6 K6
      refine c_ret ?_
      refine bp_ret Tryz.results19 rfl ?_
      refine ⟨rfl, fun b => SFoot sb VL b ∨ MPFoot mpb VT' VC' b, ⟨mpb, VT', VC', VL, M1, pok_add h2 text, ?_, fun b => Iff.rfl⟩, ?_, F1.mono (fun k _ h => (h4 k).2 (.inr h))⟩
      · exact h3.framT F1 h1.typ rfl rfl
      · rintro b (h | h)
        · exact .inl ((h4 b).2 (.inl h))
        · rcases hn b h with h | h
          · exact .inl ((h4 b).2 (.inr h))
          · exact .inr h

/-- What is shown. -/
def mShow (s : MSt) : List UInt8 := if s.opn then showP s.cls ++ [124] ++ s.q ++ [124] ++ itoa s.fuel ++ [124] ++ itoa s.given else showP s.cls ++ [124, 45]

theorem Show23 {w : World} {sb : Nat} {s : MSt} {F : Nat → Prop} (M : MAll w.heap sb s F) (hq : s.q.length ≤ 40) (hfu : s.fuel ≤ 24) (hg : s.given ≤ 1000) :
    Ret Tryz.prog 23 [ptr sb] w (fun r w' => r = S (mShow s) ∧ Fram none' w w') := by
  obtain ⟨mpb, VT, VC, VL, h1, h2, h3, h4⟩ := M
  have hB := h3.blk
  have hsl := showP_len h2
  have hi1 := itoa_len s.fuel
  have hi2 := itoa_len s.given
  cases ho : s.opn with
  | false =>
    have e1 : mShow s = showP s.cls ++ [124, 45] := by unfold mShow; rw [ho]; rfl
    rw [e1]
    simp only [ho] at hB
    refine ret_of Tryz.func23 rfl Tryz.ntmps23 rfl ?_
    refine c_seq (fun K1 hK1 => ?_)
    refine c_reg ?_ -- region 0 solvem.go:174
    refine wl (ro_assign rfl) ?_
    refine wl_nil (x_then (hK1 _ _ ?_))
    clear hK1 K1
    refine forget [(0, _)] ⟨rfl, trivial⟩ (fun e => ?_)
    refine c_seq (fun K2 hK2 => ?_)
    refine c_reg ?_ -- region 1 solvem.go:175
    refine wl (ro_move rfl) ?_
    refine wl (ro_nilCheck rfl) ?_
    refine wl (ro_fieldAddr (k := 0) rfl fo_49_0) ?_
    refine wl (ro_loadB rfl sc_44 (by assumption) rfl) ?_
    refine wl_call rfl en_40 (Show40 h1 h2) ?_
    rintro _ w ⟨rfl, rfl⟩
    refine wl (ro_assign rfl) ?_
    refine wl_nil (x_then (hK2 _ _ ?_))
    clear hK2 K2
    refine c_seq (fun K3 hK3 => ?_)
    refine c_seq (fun K4 hK4 => ?_)
    refine c_reg ?_ -- region 2 solvem.go:176
    refine wl (ro_move rfl) ?_
    refine wl (ro_nilCheck rfl) ?_
    refine wl (ro_fieldAddr (k := 1) rfl fo_49_1) ?_
    refine wl (ro_loadB rfl sc_4 (by assumption) rfl) ?_
    refine wl (ro_not rfl) ?_
    refine wl_nil (x_then (hK4 _ _ ?_))
    clear hK4 K4
    refine wc_condT rfl ?_
    refine c_seq (fun K5 hK5 => ?_)
    refine c_reg ?_ -- region 3 solvem.go:177
    refine wl (ro_move rfl) ?_
    refine wl (ro_catS rfl rfl (by simp; omega)) ?_
    refine wl (ro_assign rfl) ?_
    refine wl_nil (x_then (hK5 _ _ ?_))
    clear hK5 K5
    refine c_ret (x_thenR ?_)
    refine bp_ret Tryz.results23 rfl ?_
    exact ⟨rfl, Fram.refl _ _⟩
  | true =>
    have e1 : mShow s = showP s.cls ++ [124] ++ s.q ++ [124] ++ itoa s.fuel ++ [124] ++ itoa s.given := by unfold mShow; rw [ho]; rfl
    rw [e1]
    simp only [ho] at hB
    refine ret_of Tryz.func23 rfl Tryz.ntmps23 rfl ?_
    refine c_seq (fun K1 hK1 => ?_)
    refine c_reg ?_ -- region 0 solvem.go:174
    refine wl (ro_assign rfl) ?_
    refine wl_nil (x_then (hK1 _ _ ?_))
    clear hK1 K1
    refine forget [(0, _)] ⟨rfl, trivial⟩ (fun e => ?_)
    refine c_seq (fun K2 hK2 => ?_)
    refine c_reg ?_ -- region 1 solvem.go:175
    refine wl (ro_move rfl) ?_
    refine wl (ro_nilCheck rfl) ?_
    refine wl (ro_fieldAddr (k := 0) rfl fo_49_0) ?_
    refine wl (ro_loadB rfl sc_44 (by assumption) rfl) ?_
    refine wl_call rfl en_40 (Show40 h1 h2) ?_
    rintro _ w ⟨rfl, rfl⟩
    refine wl (ro_assign rfl) ?_
    refine wl_nil (x_then (hK2 _ _ ?_))
    clear hK2 K2
    refine c_seq (fun K3 hK3 => ?_)
    refine c_seq (fun K4 hK4 => ?_)
    refine c_reg ?_ -- region 2 solvem.go:176
    refine wl (ro_move rfl) ?_
    refine wl (ro_nilCheck rfl) ?_
    refine wl (ro_fieldAddr (k := 1) rfl fo_49_1) ?_
    refine wl (ro_loadB rfl sc_4 (by assumption) rfl) ?_
    refine wl (ro_not rfl) ?_
    refine wl_nil (x_then (hK4 _ _ ?_))
    clear hK4 K4
    refine wc_condF rfl ?_
    refine c_skip (x_then (hK3 _ _ ?_))
    clear hK3 K3
    refine forget [(0, _), (3, _)] ⟨rfl, rfl, trivial⟩ (fun e => ?_)
    refine c_seq (fun K5 hK5 => ?_)
    refine c_reg ?_ -- region 4 solvem.go:179
    refine wl (ro_move rfl) ?_
    refine wl (ro_nilCheck rfl) ?_
    refine wl (ro_fieldAddr (k := 3) rfl fo_49_3) ?_
    refine wl (ro_loadB rfl sc_3 (by assumption) rfl) ?_
    refine wl_call rfl en_39 (Itoa39 (by omega)) ?_
    rintro _ w1 ⟨rfl, F1⟩
    have hB1 := hB.fram F1 (fun h => h)
    refine wl (ro_assign rfl) ?_
    refine wl_nil (x_then (hK5 _ _ ?_))
    clear hK5 K5
    refine forget [(0, _), (3, _), (4, _)] ⟨rfl, rfl, rfl, trivial⟩ (fun e => ?_)
    refine c_seq (fun K6 hK6 => ?_)
    refine c_reg ?_ -- region 5 solvem.go:180
    refine wl (ro_move rfl) ?_
    refine wl (ro_nilCheck rfl) ?_
    refine wl (ro_fieldAddr (k := 4) rfl fo_49_4) ?_
    refine wl (ro_loadB rfl sc_3 (hB1) rfl) ?_
    refine wl_call rfl en_39 (Itoa39 (by omega)) ?_
    rintro _ w2 ⟨rfl, F2⟩
    have hB2 := hB1.fram F2 (fun h => h)
    refine wl (ro_assign rfl) ?_
    refine wl_nil (x_then (hK6 _ _ ?_))
    clear hK6 K6
    refine forget [(0, _), (3, _), (4, _), (5, _)] ⟨rfl, rfl, rfl, rfl, trivial⟩ (fun e => ?_)
    refine c_seq (fun K7 hK7 => ?_)
    refine c_reg ?_ -- region 6 solvem.go:181
    refine wl (ro_move rfl) ?_
    refine wl (ro_catS rfl rfl (by simp; omega)) ?_
    refine wl (ro_move rfl) ?_
    refine wl (ro_nilCheck rfl) ?_
    refine wl (ro_fieldAddr (k := 2) rfl fo_49_2) ?_
    refine wl (ro_loadB rfl sc_9 (hB2) rfl) ?_
    refine wl (ro_catS rfl rfl (by simp; omega)) ?_
    refine wl (ro_catS rfl rfl (by simp; omega)) ?_
    refine wl (ro_move rfl) ?_
    refine wl (ro_catS rfl rfl (by simp; omega)) ?_
    refine wl (ro_catS rfl rfl (by simp; omega)) ?_
    refine wl (ro_move rfl) ?_
    refine wl (ro_catS rfl rfl (by simp; omega)) ?_
    refine wl (ro_assign rfl) ?_
    refine wl_nil (x_then (hK7 _ _ ?_))
    clear hK7 K7
    refine c_ret ?_
    refine bp_ret Tryz.results23 rfl ?_
    exact ⟨rfl, F1.trans F2⟩

/-- Next: what is given, and the state behind it. -/
def mNextS (s : MSt) (a : An) : MSt := { s with given := s.given + 1, opn := if a.1 = 0 then s.opn else false }

theorem Next25i {w : World} {sb : Nat} {s : MSt} {F : Nat → Prop} (M : MAll w.heap sb s F) (ho : s.opn = false) :
    Ret Tryz.prog 25 [ptr sb] w (fun r w' => r = .tuple #[S [], i64c 0, i64c 0, i64c 3] ∧ w' = w) := by
  obtain ⟨mpb, VT, VC, VL, h1, h2, h3, h4⟩ := M
  have hB := h3.blk
  simp only [ho] at hB
  refine ret_of Tryz.func25 rfl Tryz.ntmps25 rfl ?_
  refine c_seq (fun K1 hK1 => ?_)
  refine c_reg ?_ -- region 0 solvem.go:162
  refine wl (ro_assign rfl) ?_
  refine wl (ro_assign rfl) ?_
  refine wl (ro_assign rfl) ?_
  refine wl (ro_assign rfl) ?_
  refine wl_nil (x_then (hK1 _ _ ?_))
  clear hK1 K1
  refine c_seq (fun K2 hK2 => ?_)
  refine c_seq (fun K3 hK3 => ?_)
  refine c_reg ?_ -- region 1 solvem.go:163
  refine wl (ro_move rfl) ?_
  refine wl (ro_nilCheck rfl) ?_
  refine wl (ro_fieldAddr (k := 1) rfl fo_49_1) ?_
  refine wl (ro_loadB rfl sc_4 (by assumption) rfl) ?_
  refine wl (ro_not rfl) ?_
  refine wl_nil (x_then (hK3 _ _ ?_))
  clear hK3 K3
  refine wc_condT rfl ?_
  refine c_seq (fun K4 hK4 => ?_)
  refine c_reg ?_ -- region 2 solvem.go:164
  refine wl (ro_assign rfl) ?_
  refine wl (ro_assign rfl) ?_
  refine wl (ro_assign rfl) ?_
  refine wl (ro_assign rfl) ?_
  refine wl_nil (x_then (hK4 _ _ ?_))
  clear hK4 K4
  refine c_ret (x_thenR ?_)
  refine bp_ret Tryz.results25 rfl ?_
  exact ⟨rfl, rfl⟩

theorem Next25 {w : World} {sb : Nat} {s : MSt} {F : Nat → Prop} (M : MAll w.heap sb s F) (ho : s.opn = true) {a : An} (ha : s.st.list[s.given]? = some a) (hgl : s.given ≤ 1000) :
    Ret Tryz.prog 25 [ptr sb] w (fun r w' => r = .tuple #[S a.2.2.2, i64c a.2.1, i64c a.2.2.1, i64c a.1] ∧ MPostF F sb (mNextS s a) w w') := by
  obtain ⟨mpb, VT, VC, VL, h1, h2, h3, h4⟩ := M
  have hB := h3.blk
  simp only [ho] at hB
  have hgi := (List.getElem?_eq_some_iff.1 ha).1
  obtain ⟨g, cap, l, rfl, hBl, hc1, hc2, hl1, hl2⟩ := h3.own.pos (by omega)
  have hcell : (l.drop (s.given * 4)).take 4 = anc a := by
    have hd : s.st.list.drop s.given = a :: s.st.list.drop (s.given + 1) := by rw [List.drop_eq_getElem_cons hgi, (List.getElem?_eq_some_iff.1 ha).2]
    have e1 : (s.st.list.flatMap anc).drop (s.given * 4) = (s.st.list.drop s.given).flatMap anc := by
      conv => lhs; rw [← List.take_append_drop s.given s.st.list]
      rw [List.flatMap_append, List.drop_left' (by rw [ancs_len]; simp; omega)]
    rw [hd] at e1
    have e2 : (l.take (s.st.list.length * 4)).drop (s.given * 4) = anc a ++ (s.st.list.drop (s.given + 1)).flatMap anc := by rw [hl2, e1]; rfl
    rw [List.drop_take] at e2
    have e3 := congrArg (List.take 4) e2
    rw [List.take_take, Nat.min_eq_left (by omega)] at e3
    rw [e3]
    exact List.take_left' rfl
  have hgne : g ≠ sb := fun h => h3.own.neblk h3.blk (by decide) g rfl h
  refine ret_of Tryz.func25 rfl Tryz.ntmps25 rfl ?_
  refine c_seq (fun K1 hK1 => ?_)
  refine c_reg ?_ -- region 0 solvem.go:162
  refine wl (ro_assign rfl) ?_
  refine wl (ro_assign rfl) ?_
  refine wl (ro_assign rfl) ?_
  refine wl (ro_assign rfl) ?_
  refine wl_nil (x_then (hK1 _ _ ?_))
  clear hK1 K1
  refine c_seq (fun K2 hK2 => ?_)
  refine c_seq (fun K3 hK3 => ?_)
  refine c_reg ?_ -- region 1 solvem.go:163
  refine wl (ro_move rfl) ?_
  refine wl (ro_nilCheck rfl) ?_
  refine wl (ro_fieldAddr (k := 1) rfl fo_49_1) ?_
  refine wl (ro_loadB rfl sc_4 (by assumption) rfl) ?_
  refine wl (ro_not rfl) ?_
  refine wl_nil (x_then (hK3 _ _ ?_))
  clear hK3 K3
  refine wc_condF rfl ?_
  refine c_skip (x_then (hK2 _ _ ?_))
  clear hK2 K2
  refine forget [(0, _)] ⟨rfl, trivial⟩ (fun e => ?_)
  refine c_seq (fun K4 hK4 => ?_)
  refine c_piL 11 [(0, false), (1, false), (2, false), (3, false), (4, false), (5, false), (6, false), (7, false), (8, false), (9, false), (10, true)] (fun w' => Blk w'.heap sb [ptr mpb, .bool true, S s.q, i64c s.fuel, i64c s.given, .slice (some ⟨g, 0, none⟩) s.st.list.length cap, i64c s.st.inf, i64c s.st.tried, i64c s.st.fin] 49 ∧ Blk w'.heap g l 94) mixed (by kernel_rfl) rfl (by kernel_rfl) (po_then (po_bp)) (⟨hB, hBl⟩) ?_ -- region 3 solvem.go:166
  refine ql_ro rfl (fun w hS => ro_move rfl) ?_
  refine ql_ro rfl (fun w hS => ro_nilCheck rfl) ?_
  refine ql_ro rfl (fun w hS => ro_fieldAddr (k := 5) rfl fo_49_5) ?_
  refine ql_ro rfl (fun w hS => ro_loadB rfl sc_46 (hS.1) rfl) ?_
  refine ql_ro rfl (fun w hS => ro_move rfl) ?_
  refine ql_ro rfl (fun w hS => ro_nilCheck rfl) ?_
  refine ql_ro rfl (fun w hS => ro_fieldAddr (k := 4) rfl fo_49_4) ?_
  refine ql_ro rfl (fun w hS => ro_loadB rfl sc_3 (hS.1) rfl) ?_
  refine ql_ro rfl (fun w hS => ro_indexAddr (et := 94) (k := 4) rfl rfl se_46 rfl (hgi)) ?_
  refine ql_ro rfl (fun w hS => ro_loadAggB rfl ag_94 (hS.2) ((rfl : (anc a).length = 4)) ((by simpa using hcell))) ?_
  refine ql_eo rfl (eo_alloc ze_94) (⟨hB.alloc _, hBl.alloc _⟩) ?_
  have hN := Blk.new { w with drawn := w.drawn + 1 } [i64c 0, i64c 0, i64c 0, S []] 94
  have hB1 := (hB.fram (Fram.drew none' w (w.drawn + 1)) (fun h => h)).alloc (.cells [i64c 0, i64c 0, i64c 0, S []].toArray 94)
  have hX : Fram none' w (World.alloc { w with drawn := w.drawn + 1 } (.cells [i64c 0, i64c 0, i64c 0, S []].toArray 94)) := (Fram.drew none' w (w.drawn + 1)).thenAlloc
  refine ql_last rfl (so_storeAggB rfl rfl ((by simp [anc, S, i64c, Value.oneCell'])) sz_94 rfl (hN) ((by simp [anc]))) ?_
  have hA := hN.set (anc a)
  have F3 := hX.trans' (Fram.set (F := fun b => b = w.heap.size) _ w.heap.size (anc a).toArray (.inl rfl)) (fun k hk hx => absurd hx (by omega))
  refine x_then (hK4 _ _ ?_)
  clear hK4 K4
  refine forget [(0, _), (6, _)] ⟨rfl, rfl, trivial⟩ (fun e => ?_)
  refine c_seq (fun K5 hK5 => ?_)
  refine gen3 (A := fun w4 => Blk w4.heap sb [ptr mpb, .bool true, S s.q, i64c s.fuel, i64c s.given, .slice (some ⟨g, 0, none⟩) s.st.list.length cap, i64c s.st.inf, i64c s.st.tried, i64c s.st.fin] 49) (B := fun w4 => Blk w4.heap w.heap.size (anc a) 94) (D := fun w4 => Fram none' w w4) (C := fun w4 => WC _ _ _ _ w4) (hB.fram F3 (fun h => h)) hA F3 ?_
  clear hA F3 hX hN hB1
  intro w4 hB4 hA4 F4
  have hsz := hB4.lt
  have hszs := hB.lt
  refine c_reg ?_ -- region 4 solvem.go:167
  refine wl (ro_move rfl) ?_
  refine wl (ro_nilCheck rfl) ?_
  refine wl (ro_fieldAddr (k := 4) rfl fo_49_4) ?_
  refine wl (ro_loadB rfl sc_3 (hB4) rfl) ?_
  refine wl (ro_arith rfl rfl rfl (Go.IntWalk.i64_in _ (by omega))) ?_
  refine wl (ro_nilCheck rfl) ?_
  refine wl (ro_fieldAddr (k := 4) rfl fo_49_4) ?_
  refine wls (so_storeB rfl rfl rfl sz_3 (hB4) (by simp)) ?_
  refine gset (C := fun w' => WL _ _ _ _ _ w') (l' := [ptr mpb, .bool true, S s.q, i64c s.fuel, i64c (s.given + 1), .slice (some ⟨g, 0, none⟩) s.st.list.length cap, i64c s.st.inf, i64c s.st.tried, i64c s.st.fin]) hB4 (Fram.refl _ w4) ?_
  intro w5 hB5 F5
  have hA5 : Blk w5.heap w.heap.size (anc a) 94 := hA4.fram F5 (by omega)
  refine wl_nil (x_then (hK5 _ _ ?_))
  clear hK5 K5
  refine c_seq (fun K6 hK6 => ?_)
  refine c_seq (fun K7 hK7 => ?_)
  refine c_reg ?_ -- region 5 solvem.go:168
  refine wl (ro_fieldAddr (k := 0) rfl fo_94_0) ?_
  refine wl (ro_loadB rfl sc_47 (hA5) rfl) ?_
  refine wl (ro_cmp (r := !decide (a.1 = 0)) rfl rfl (congrArg some (congrArg not (beqc a.1 0)))) ?_
  refine wl_nil (x_then (hK7 _ _ ?_))
  clear hK7 K7
  refine wc_cond rfl (fun hc31 => ?_) (fun hc31 => ?_)
  · try simp only [decide_eq_true_eq, decide_eq_false_iff_not, Bool.not_eq_true', Bool.not_eq_false', Bool.not_eq_eq_eq_not, Bool.not_true, Bool.not_false, beq_iff_eq, bne_iff_ne, ne_eq, beq_eq_false_iff_ne, bne_eq_false_iff_eq, gt_iff_lt, ge_iff_le, Int.not_lt, Int.not_le] at hc31
    have ha0 : a.1 ≠ 0 := by simpa using hc31
    refine c_reg ?_ -- region 6 solvem.go:169
    refine wl (ro_move rfl) ?_
    refine wl (ro_nilCheck rfl) ?_
    refine wl (ro_fieldAddr (k := 1) rfl fo_49_1) ?_
    refine wls (so_storeB rfl rfl rfl sz_4 (hB5) (by simp)) ?_
    refine gset (C := fun w' => WL _ _ _ _ _ w') (l' := [ptr mpb, .bool false, S s.q, i64c s.fuel, i64c (s.given + 1), .slice (some ⟨g, 0, none⟩) s.st.list.length cap, i64c s.st.inf, i64c s.st.tried, i64c s.st.fin]) hB5 F5 ?_
    clear F5 hA5 hB5
    intro w5 hB5 F5
    have hA5 : Blk w5.heap w.heap.size (anc a) 94 := hA4.fram F5 (by omega)
    refine wl_nil (x_then (hK6 _ _ ?_))
    clear hK6 K6
    refine forget [(6, _)] ⟨rfl, trivial⟩ (fun e => ?_)
    refine c_seq (fun K8 hK8 => ?_)
    have hfin : Fram F w w5 := (F4.mono (fun _ _ h => h.elim)).trans' F5 (fun k hk hx => (h4 k).2 (.inl (.inl hx)))
    have hP5 := (h1.fram F4 (fun _ _ h => h)).framT F5 hB4.typ rfl rfl
    have hO5 := (h3.own.fram F4 (fun _ _ h => h)).framT F5 hB4.typ rfl
    refine c_pi [(0, false), (1, false), (2, false), (3, false), (4, false), (5, false), (6, false), (7, false), (8, false), (9, false), (10, false), (11, false)] (SameH w5.heap) mixed (by kernel_rfl) rfl (by kernel_rfl) (po_then (po_bp)) (rfl) ?_ -- region 7 solvem.go:171
    refine pi_ro rfl (fun w hS => ro_fieldAddr (k := 3) rfl fo_94_3) ?_
    refine pi_ro rfl (fun w hS => ro_loadB rfl sc_9 (Blk.of_heap hA5 hS) rfl) ?_
    refine pi_ro rfl (fun w hS => ro_fieldAddr (k := 1) rfl fo_94_1) ?_
    refine pi_ro rfl (fun w hS => ro_loadB rfl sc_3 (Blk.of_heap hA5 hS) rfl) ?_
    refine pi_ro rfl (fun w hS => ro_fieldAddr (k := 2) rfl fo_94_2) ?_
    refine pi_ro rfl (fun w hS => ro_loadB rfl sc_3 (Blk.of_heap hA5 hS) rfl) ?_
    refine pi_ro rfl (fun w hS => ro_fieldAddr (k := 0) rfl fo_94_0) ?_
    refine pi_ro rfl (fun w hS => ro_loadB rfl sc_47 (Blk.of_heap hA5 hS) rfl) ?_
    refine pi_ro rfl (fun w hS => ro_assign rfl) ?_
    refine pi_ro rfl (fun w hS => ro_assign rfl) ?_
    refine pi_ro rfl (fun w hS => ro_assign rfl) ?_
    refine pi_ro rfl (fun w hS => ro_assign rfl) ?_
    refine pi_nil (x_then (hK8 _ _ ?_))
    clear hK8 K8
    refine c_ret ?_
    refine bp_ret Tryz.results25 rfl ?_
    refine ⟨rfl, F, ⟨mpb, VT, VC, _, hP5, h2, ⟨?_, hO5⟩, h4⟩, fun b h => .inl h, hfin.trans (Fram.drew _ w5 (w5.drawn + 1))⟩
    simp only [mNextS]
    rw [if_neg ha0]
    exact hB5
  · try simp only [decide_eq_true_eq, decide_eq_false_iff_not, Bool.not_eq_true', Bool.not_eq_false', Bool.not_eq_eq_eq_not, Bool.not_true, Bool.not_false, beq_iff_eq, bne_iff_ne, ne_eq, beq_eq_false_iff_ne, bne_eq_false_iff_eq, gt_iff_lt, ge_iff_le, Int.not_lt, Int.not_le] at hc31
    have ha0 : a.1 = 0 := by simpa using hc31
    refine c_skip (x_then (hK6 _ _ ?_))
    clear hK6 K6
    refine forget [(6, _)] ⟨rfl, trivial⟩ (fun e => ?_)
    refine c_seq (fun K9 hK9 => ?_)
    have hfin : Fram F w w5 := (F4.mono (fun _ _ h => h.elim)).trans' F5 (fun k hk hx => (h4 k).2 (.inl (.inl hx)))
    have hP5 := (h1.fram F4 (fun _ _ h => h)).framT F5 hB4.typ rfl rfl
    have hO5 := (h3.own.fram F4 (fun _ _ h => h)).framT F5 hB4.typ rfl
    refine c_pi [(0, false), (1, false), (2, false), (3, false), (4, false), (5, false), (6, false), (7, false), (8, false), (9, false), (10, false), (11, false)] (SameH w5.heap) mixed (by kernel_rfl) rfl (by kernel_rfl) (po_then (po_bp)) (rfl) ?_ -- region 7 solvem.go:171
    refine pi_ro rfl (fun w hS => ro_fieldAddr (k := 3) rfl fo_94_3) ?_
    refine pi_ro rfl (fun w hS => ro_loadB rfl sc_9 (Blk.of_heap hA5 hS) rfl) ?_
    refine pi_ro rfl (fun w hS => ro_fieldAddr (k := 1) rfl fo_94_1) ?_
    refine pi_ro rfl (fun w hS => ro_loadB rfl sc_3 (Blk.of_heap hA5 hS) rfl) ?_
    refine pi_ro rfl (fun w hS => ro_fieldAddr (k := 2) rfl fo_94_2) ?_
    refine pi_ro rfl (fun w hS => ro_loadB rfl sc_3 (Blk.of_heap hA5 hS) rfl) ?_
    refine pi_ro rfl (fun w hS => ro_fieldAddr (k := 0) rfl fo_94_0) ?_
    refine pi_ro rfl (fun w hS => ro_loadB rfl sc_47 (Blk.of_heap hA5 hS) rfl) ?_
    refine pi_ro rfl (fun w hS => ro_assign rfl) ?_
    refine pi_ro rfl (fun w hS => ro_assign rfl) ?_
    refine pi_ro rfl (fun w hS => ro_assign rfl) ?_
    refine pi_ro rfl (fun w hS => ro_assign rfl) ?_
    refine pi_nil (x_then (hK9 _ _ ?_))
    clear hK9 K9
    refine c_ret ?_
    refine bp_ret Tryz.results25 rfl ?_
    refine ⟨rfl, F, ⟨mpb, VT, VC, _, hP5, h2, ⟨?_, hO5⟩, h4⟩, fun b h => .inl h, hfin.trans (Fram.drew _ w5 (w5.drawn + 1))⟩
    simp only [mNextS]
    rw [if_pos ha0, ho]
    exact hB5

end Go.Proofs.Qxb6500569aGreat
