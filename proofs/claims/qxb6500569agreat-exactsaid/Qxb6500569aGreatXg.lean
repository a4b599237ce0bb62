import Derived.Test.Qxb6500569aGreatXf
/- The real machine: New, Add, Show. -/
namespace Go.Proofs.Qxb6500569aGreat
set_option linter.unusedVariables false
set_option linter.unusedSimpArgs false

def RAll (H : Array Obj) (sb : Nat) (s : RSt) (F : Nat → Prop) : Prop :=
  ∃ (L : HL) (pb : Nat) (V : Value × Value × Value) (Fp : Nat → Prop), SRm H sb L pb V.1 V.2.1 V.2.2 s Fp ∧ POK s.cls ∧ ∀ b, F b ↔ (SFt sb L V.1 V.2.1 V.2.2 b ∨ Fp b)

theorem SRm.fram {G : Nat → Prop} {w w' : World} {sb pb : Nat} {L : HL} {VF VG VP : Value} {s : RSt} {Fp : Nat → Prop} (h : SRm w.heap sb L pb VF VG VP s Fp) (hf : Fram G w w') (h1 : ∀ b, SFt sb L VF VG VP b → ¬ G b) (h2 : ∀ b, Fp b → ¬ G b) : SRm w'.heap sb L pb VF VG VP s Fp :=
  ⟨h.blk.fram hf (h1 _ (.inl rfl)), h.fro.fram hf (fun b hb => h1 b (.inr (.inr (.inl hb)))), h.cho.fram hf (fun b hb => h1 b (.inr (.inr (.inr (.inl hb))))), h.pro.fram hf (fun b hb => h1 b (.inr (.inr (.inr (.inr hb))))), h.hpr.fram hf (fun b hb => h1 b (.inr (.inl hb))), h.pr.fram hf h2, h.dl, h.dp, fun b hb => Nat.lt_of_lt_of_le (h.lp b hb) hf.size⟩

theorem SRm.lt {w : World} {sb pb : Nat} {L : HL} {VF VG VP : Value} {s : RSt} {Fp : Nat → Prop} (h : SRm w.heap sb L pb VF VG VP s Fp) {b : Nat} (hb : SFt sb L VF VG VP b) : b < w.heap.size := by
  rcases hb with hb | hb | hb | hb | hb
  · rw [hb]; exact h.blk.lt
  · exact h.hpr.lt hb
  · exact h.fro.lt hb
  · exact h.cho.lt hb
  · exact h.pro.lt hb

theorem RAll.fram {G : Nat → Prop} {w w' : World} {sb : Nat} {s : RSt} {F : Nat → Prop} (h : RAll w.heap sb s F) (hf : Fram G w w') (hn : ∀ b, F b → ¬ G b) : RAll w'.heap sb s F := by
  obtain ⟨L, pb, V, Fp, M, ok, hF⟩ := h
  exact ⟨L, pb, V, Fp, M.fram hf (fun b hb => hn b ((hF b).2 (.inl hb))) (fun b hb => hn b ((hF b).2 (.inr hb))), ok, hF⟩

theorem RAll.lt {w : World} {sb : Nat} {s : RSt} {F : Nat → Prop} (h : RAll w.heap sb s F) {b : Nat} (hb : F b) : b < w.heap.size := by
  obtain ⟨L, pb, V, Fp, M, ok, hF⟩ := h
  rcases (hF b).1 hb with h | h
  · exact M.lt h
  · exact M.lp b h

theorem MAll.lt {w : World} {sb : Nat} {s : MSt} {F : Nat → Prop} (h : MAll w.heap sb s F) {b : Nat} (hb : F b) : b < w.heap.size := by
  obtain ⟨mpb, VT, VC, VL, h1, h2, h3, h4⟩ := h
  rcases (h4 b).1 hb with (h | h) | (h | h | h)
  · rw [h]; exact h3.blk.lt
  · exact h3.own.lt h
  · rw [h]; exact h1.blk.lt
  · exact h1.txt.lt h
  · exact h1.cod.lt h

def RPostF (F : Nat → Prop) (sb : Nat) (s' : RSt) (w w' : World) : Prop := ∃ F', RAll w'.heap sb s' F' ∧ (∀ b, F' b → F b ∨ w.heap.size ≤ b) ∧ Fram F w w'

theorem RPostF.same {F : Nat → Prop} {sb : Nat} {s : RSt} {w w' : World} (h : RAll w.heap sb s F) (hf : Fram none' w w') : RPostF F sb s w w' :=
  ⟨F, h.fram hf (fun _ _ h => h), fun b h => .inl h, hf.mono (fun _ _ h => h.elim)⟩

theorem Inv0.post {w w' : World} {sb : Nat} {L : HL} {pb : Nat} {V0 V : Value × Value × Value} {s0 s : RSt} {Fp F : Nat → Prop} (h : Inv0 w w' sb L pb V0 s0 V s Fp) (ok : POK s0.cls) (hF : ∀ b, F b ↔ (SFt sb L V0.1 V0.2.1 V0.2.2 b ∨ Fp b)) : RPostF F sb s w w' := by
  refine ⟨fun b => SFt sb L V.1 V.2.1 V.2.2 b ∨ Fp b, ⟨L, pb, V, Fp, h.m, h.cst.1 ▸ ok, fun b => Iff.rfl⟩, ?_, h.fr.mono (fun b _ hb => (hF b).2 (.inl hb))⟩
  rintro b ((hb | hb | hb | hb | hb) | hb)
  · exact .inl ((hF b).2 (.inl (.inl hb)))
  · exact .inl ((hF b).2 (.inl (.inr (.inl hb))))
  · rcases h.nf b hb with h | h
    · exact .inl ((hF b).2 (.inl (.inr (.inr (.inl h)))))
    · exact .inr h
  · rcases h.ng b hb with h | h
    · exact .inl ((hF b).2 (.inl (.inr (.inr (.inr (.inl h))))))
    · exact .inr h
  · rcases h.np b hb with h | h
    · exact .inl ((hF b).2 (.inl (.inr (.inr (.inr (.inr h))))))
    · exact .inr h
  · exact .inl ((hF b).2 (.inr hb))

def rs0 : RSt := ⟨[], false, [], 0, 0, 0, 0, -1, [], [], [], [], []⟩

theorem New16 {w : World} {L : HL} {pb : Nat} {Fp : Nat → Prop} (hh : HpR w.heap L [] []) (hp : PrX w.heap pb [] Fp) (hd : ∀ b, Fp b → ¬ L.foot b) (hlt : ∀ b, Fp b → b < w.heap.size) :
    Ret Tryz.prog 16 [ptr L.h, ptr pb] w (fun r w' => ∃ sb F, r = ptr sb ∧ RAll w'.heap sb rs0 F ∧ (∀ b, F b → L.foot b ∨ Fp b ∨ w.heap.size ≤ b) ∧ Fram none' w w') := by
  refine ret_of Tryz.func16 rfl Tryz.ntmps16 rfl ?_
  refine c_seq (fun K1 hK1 => ?_)
  refine c_reg ?_ -- region 0 solve.go:45
  refine wl (ro_assign rfl) ?_
  refine wl_nil (x_then (hK1 _ _ ?_))
  clear hK1 K1
  refine forget [(0, _), (1, _)] ⟨rfl, rfl, trivial⟩ (fun e => ?_)
  refine c_seq (fun K2 hK2 => ?_)
  refine c_reg ?_ -- region 1 solve.go:46
  refine wl (ro_move rfl) ?_
  refine wl (ro_move rfl) ?_
  refine wl (ro_build rfl bld_82_0_1_8) ?_
  refine wle (eo_box rfl rfl) ?_
  have hN := Blk.new w [ptr L.h, ptr pb, .bool false, S [], i64c 0, i64c 0, i64c 0, i64c 0, .int .i64 (-1), .slice none 0 0, .slice none 0 0, .slice none 0 0] 82
  have FA : Fram none' w (w.alloc (.cells [ptr L.h, ptr pb, .bool false, S [], i64c 0, i64c 0, i64c 0, i64c 0, .int .i64 (-1), .slice none 0 0, .slice none 0 0, .slice none 0 0].toArray 82)) := Fram.alloc none' w _
  refine wl (ro_assign rfl) ?_
  refine wl_nil (x_then (hK2 _ _ ?_))
  clear hK2 K2
  refine c_ret ?_
  refine bp_ret Tryz.results16 rfl ?_
  refine ⟨w.heap.size, fun b => SFt w.heap.size L (.slice none 0 0) (.slice none 0 0) (.slice none 0 0) b ∨ Fp b, rfl, ⟨L, pb, (.slice none 0 0, .slice none 0 0, .slice none 0 0), Fp, ⟨hN, Own.nil _ _ _, Own.nil _ _ _, Own.nil _ _ _, hh.fram FA (fun _ _ h => h), hp.fram FA (fun _ _ h => h), ?_, ?_, fun b hb => Nat.lt_of_lt_of_le (hlt b hb) FA.size⟩, ⟨by simp [rs0], by simp [rs0], by simp [rs0]⟩, fun b => Iff.rfl⟩, ?_, FA⟩
  · intro b hb
    have := hh.lt hb
    exact ⟨by omega, by simp [Value.ownBlock], by simp [Value.ownBlock], by simp [Value.ownBlock]⟩
  · intro b hb
    have := hlt b hb
    exact ⟨hd b hb, by omega, by simp [Value.ownBlock], by simp [Value.ownBlock], by simp [Value.ownBlock]⟩
  · rintro b ((h | h | h | h | h) | h)
    · exact .inr (.inr (by omega))
    · exact .inl h
    · simp [Value.ownBlock] at h
    · simp [Value.ownBlock] at h
    · simp [Value.ownBlock] at h
    · exact .inr (.inl h)

def rAddV (s : RSt) (text : List UInt8) : Value := if 40 < text.length then .tuple #[.int .i64 (-1), i64c 1] else if s.opn then .tuple #[.int .i64 (-1), i64c 2] else addV s.cls text
def rAddS (s : RSt) (text : List UInt8) : RSt := if 40 < text.length then s else if s.opn then s else { s with cls := addC s.cls text }

theorem Add18 {w : World} {sb : Nat} {s : RSt} {F : Nat → Prop} (M : RAll w.heap sb s F) (text : List UInt8) :
    Ret Tryz.prog 18 [ptr sb, S text] w (fun r w' => r = rAddV s text ∧ RPostF F sb (rAddS s text) w w') := by
  have M0 := M
  obtain ⟨L, pb, V, Fp, M, ok, hF⟩ := M
  have hB := M.blk
  by_cases hl : 40 < text.length
  · have e1 : rAddV s text = .tuple #[.int .i64 (-1), i64c 1] := by unfold rAddV; rw [if_pos hl]
    have e2 : rAddS s text = s := by unfold rAddS; rw [if_pos hl]
    rw [e1, e2]
    refine ret_of Tryz.func18 rfl Tryz.ntmps18 rfl ?_
    refine c_seq (fun K1 hK1 => ?_)
    refine c_reg ?_ -- region 0 solve.go:59
    refine wl (ro_assign rfl) ?_
    refine wl (ro_assign rfl) ?_
    refine wl_nil (x_then (hK1 _ _ ?_))
    clear hK1 K1
    refine c_seq (fun K2 hK2 => ?_)
    refine c_seq (fun K3 hK3 => ?_)
    refine c_reg ?_ -- region 1 solve.go:60
    refine wl (ro_move rfl) ?_
    refine wl (ro_lenS rfl st_9) ?_
    refine wl (ro_cmp (r := true) rfl rfl (by simp; omega)) ?_
    refine wl_nil (x_then (hK3 _ _ ?_))
    clear hK3 K3
    refine wc_condT rfl ?_
    refine c_seq (fun K4 hK4 => ?_)
    refine c_reg ?_ -- region 2 solve.go:61
    refine wl (ro_assign rfl) ?_
    refine wl (ro_assign rfl) ?_
    refine wl_nil (x_then (hK4 _ _ ?_))
    clear hK4 K4
    refine c_ret (x_thenR ?_)
    refine bp_ret Tryz.results18 rfl ?_
    exact ⟨rfl, .same M0 (Fram.refl _ _)⟩
  · cases ho : s.opn with
    | true =>
      have e1 : rAddV s text = .tuple #[.int .i64 (-1), i64c 2] := by unfold rAddV; rw [if_neg hl, ho]; rfl
      have e2 : rAddS s text = s := by unfold rAddS; rw [if_neg hl, ho]; rfl
      rw [e1, e2]
      simp only [ho] at hB
      refine ret_of Tryz.func18 rfl Tryz.ntmps18 rfl ?_
      refine c_seq (fun K1 hK1 => ?_)
      refine c_reg ?_ -- region 0 solve.go:59
      refine wl (ro_assign rfl) ?_
      refine wl (ro_assign rfl) ?_
      refine wl_nil (x_then (hK1 _ _ ?_))
      clear hK1 K1
      refine c_seq (fun K2 hK2 => ?_)
      refine c_seq (fun K3 hK3 => ?_)
      refine c_reg ?_ -- region 1 solve.go:60
      refine wl (ro_move rfl) ?_
      refine wl (ro_lenS rfl st_9) ?_
      refine wl (ro_cmp (r := false) rfl rfl (by simp; omega)) ?_
      refine wl_nil (x_then (hK3 _ _ ?_))
      clear hK3 K3
      refine wc_condF rfl ?_
      refine c_skip (x_then (hK2 _ _ ?_))
      clear hK2 K2
      refine c_seq (fun K4 hK4 => ?_)
      refine c_seq (fun K5 hK5 => ?_)
      refine c_reg ?_ -- region 3 solve.go:63
      refine wl (ro_move rfl) ?_
      refine wl (ro_nilCheck rfl) ?_
      refine wl (ro_fieldAddr (k := 2) rfl fo_82_2) ?_
      refine wl (ro_loadB rfl sc_4 (by assumption) rfl) ?_
      refine wl_nil (x_then (hK5 _ _ ?_))
      clear hK5 K5
      refine wc_condT rfl ?_
      refine c_seq (fun K6 hK6 => ?_)
      refine c_reg ?_ -- region 4 solve.go:64
      refine wl (ro_assign rfl) ?_
      refine wl (ro_assign rfl) ?_
      refine wl_nil (x_then (hK6 _ _ ?_))
      clear hK6 K6
      refine c_ret (x_thenR ?_)
      refine bp_ret Tryz.results18 rfl ?_
      exact ⟨rfl, .same M0 (Fram.refl _ _)⟩
    | false =>
      have e1 : rAddV s text = addV s.cls text := by unfold rAddV; rw [if_neg hl, ho]; rfl
      have e2 : rAddS s text = { s with cls := addC s.cls text } := by unfold rAddS; rw [if_neg hl, ho]; rfl
      rw [e1, e2]
      simp only [ho] at hB
      obtain ⟨v0, v1, hv⟩ : ∃ v0 v1, addV s.cls text = .tuple #[v0, v1] := by
        unfold addV
        split
        · exact ⟨_, _, rfl⟩
        · split
          · exact ⟨_, _, rfl⟩
          · split <;> exact ⟨_, _, rfl⟩
      have hadd := Add27 M.pr ok text (by omega)
      rw [hv] at hadd ⊢
      refine ret_of Tryz.func18 rfl Tryz.ntmps18 rfl ?_
      refine c_seq (fun K1 hK1 => ?_)
      refine c_reg ?_ -- region 0 solve.go:59
      refine wl (ro_assign rfl) ?_
      refine wl (ro_assign rfl) ?_
      refine wl_nil (x_then (hK1 _ _ ?_))
      clear hK1 K1
      refine c_seq (fun K2 hK2 => ?_)
      refine c_seq (fun K3 hK3 => ?_)
      refine c_reg ?_ -- region 1 solve.go:60
      refine wl (ro_move rfl) ?_
      refine wl (ro_lenS rfl st_9) ?_
      refine wl (ro_cmp (r := false) rfl rfl (by simp; omega)) ?_
      refine wl_nil (x_then (hK3 _ _ ?_))
      clear hK3 K3
      refine wc_condF rfl ?_
      refine c_skip (x_then (hK2 _ _ ?_))
      clear hK2 K2
      refine c_seq (fun K4 hK4 => ?_)
      refine c_seq (fun K5 hK5 => ?_)
      refine c_reg ?_ -- region 3 solve.go:63
      refine wl (ro_move rfl) ?_
      refine wl (ro_nilCheck rfl) ?_
      refine wl (ro_fieldAddr (k := 2) rfl fo_82_2) ?_
      refine wl (ro_loadB rfl sc_4 (by assumption) rfl) ?_
      refine wl_nil (x_then (hK5 _ _ ?_))
      clear hK5 K5
      refine wc_condF rfl ?_
      refine c_skip (x_then (hK4 _ _ ?_))
      clear hK4 K4
      refine forget [(0, _), (1, _)] ⟨rfl, rfl, trivial⟩ (fun e => ?_)
      refine c_seq (fun K6 hK6 => ?_)
      refine c_reg ?_ -- region 5 solve.go:66
      refine wl (ro_move rfl) ?_
      refine wl (ro_nilCheck rfl) ?_
      refine wl (ro_fieldAddr (k := 1) rfl fo_82_1) ?_
      refine wl (ro_loadB rfl sc_25 (by assumption) rfl) ?_
      refine wl (ro_move rfl) ?_
      refine wl_call rfl en_27 (hadd) ?_
      rintro _ w1 ⟨rfl, P1, F1⟩
      refine wl (ro_extract rfl rfl) ?_
      refine wl (ro_extract rfl rfl) ?_
      refine wl (ro_assign rfl) ?_
      refine wl (ro_assign rfl) ?_
      refine wl_nil (x_then (hK6 _ _ ?_))
      clear hK6 K6
      refine c_ret ?_
      refine bp_ret Tryz.results18 rfl ?_
      have hS : SRm w1.heap sb L pb V.1 V.2.1 V.2.2 { s with cls := addC s.cls text } (ext Fp w w1) := by
        refine ⟨M.blk.fram F1 (fun h => (M.dp _ h).2.1 rfl), M.fro.fram F1 (fun b hb h => (M.dp b h).2.2.1 hb), M.cho.fram F1 (fun b hb h => (M.dp b h).2.2.2.1 hb), M.pro.fram F1 (fun b hb h => (M.dp b h).2.2.2.2 hb), M.hpr.fram F1 (fun b hb h => (M.dp b h).1 hb), P1, M.dl, ?_, ?_⟩
        · rintro b (hb | ⟨hb, _⟩)
          · exact M.dp b hb
          · refine ⟨fun h => ?_, fun h => ?_, fun h => ?_, fun h => ?_, fun h => ?_⟩
            · have := M.hpr.lt h; omega
            · have := M.blk.lt; omega
            · have := M.fro.lt h; omega
            · have := M.cho.lt h; omega
            · have := M.pro.lt h; omega
        · rintro b (hb | ⟨_, hb⟩)
          · exact Nat.lt_of_lt_of_le (M.lp b hb) F1.size
          · exact hb
      refine ⟨rfl, fun b => SFt sb L V.1 V.2.1 V.2.2 b ∨ ext Fp w w1 b, ⟨L, pb, V, ext Fp w w1, hS, pok_add ok text, fun b => Iff.rfl⟩, ?_, F1.mono (fun b _ h => (hF b).2 (.inr h))⟩
      rintro b (h | h | h)
      · exact .inl ((hF b).2 (.inl h))
      · exact .inl ((hF b).2 (.inr h))
      · exact .inr h.1

def rShow (s : RSt) : List UInt8 := if s.opn then showP s.cls ++ [124] ++ s.q ++ [124] ++ itoa s.fuel ++ [124] ++ itoa s.given else showP s.cls ++ [124, 45]

theorem Show22 {w : World} {sb : Nat} {s : RSt} {F : Nat → Prop} (M : RAll w.heap sb s F) (hq : s.q.length ≤ 40) (hfu : s.fuel ≤ 24) (hg : s.given ≤ 1000) :
    Ret Tryz.prog 22 [ptr sb] w (fun r w' => r = S (rShow s) ∧ Fram none' w w') := by
  obtain ⟨L, pb, V, Fp, M, ok, hF⟩ := M
  have hB := M.blk
  have hsl := showP_len ok
  have hi1 := itoa_len s.fuel
  have hi2 := itoa_len s.given
  cases ho : s.opn with
  | false =>
    have e1 : rShow s = showP s.cls ++ [124, 45] := by unfold rShow; rw [ho]; rfl
    rw [e1]
    simp only [ho] at hB
    refine ret_of Tryz.func22 rfl Tryz.ntmps22 rfl ?_
    refine c_seq (fun K1 hK1 => ?_)
    refine c_reg ?_ -- region 0 solve.go:136
    refine wl (ro_assign rfl) ?_
    refine wl_nil (x_then (hK1 _ _ ?_))
    clear hK1 K1
    refine forget [(0, _)] ⟨rfl, trivial⟩ (fun e => ?_)
    refine c_seq (fun K2 hK2 => ?_)
    refine c_reg ?_ -- region 1 solve.go:137
    refine wl (ro_move rfl) ?_
    refine wl (ro_nilCheck rfl) ?_
    refine wl (ro_fieldAddr (k := 1) rfl fo_82_1) ?_
    refine wl (ro_loadB rfl sc_25 (by assumption) rfl) ?_
    refine wl_call rfl en_38 (Show38 M.pr ok) ?_
    rintro _ w1 ⟨rfl, F1⟩
    have hB1 := hB.fram F1 (fun h => h)
    refine wl (ro_assign rfl) ?_
    refine wl_nil (x_then (hK2 _ _ ?_))
    clear hK2 K2
    refine c_seq (fun K3 hK3 => ?_)
    refine c_seq (fun K4 hK4 => ?_)
    refine c_reg ?_ -- region 2 solve.go:138
    refine wl (ro_move rfl) ?_
    refine wl (ro_nilCheck rfl) ?_
    refine wl (ro_fieldAddr (k := 2) rfl fo_82_2) ?_
    refine wl (ro_loadB rfl sc_4 (hB1) rfl) ?_
    refine wl (ro_not rfl) ?_
    refine wl_nil (x_then (hK4 _ _ ?_))
    clear hK4 K4
    refine wc_condT rfl ?_
    refine c_seq (fun K5 hK5 => ?_)
    refine c_reg ?_ -- region 3 solve.go:139
    refine wl (ro_move rfl) ?_
    refine wl (ro_catS rfl rfl (by simp; omega)) ?_
    refine wl (ro_assign rfl) ?_
    refine wl_nil (x_then (hK5 _ _ ?_))
    clear hK5 K5
    refine c_ret (x_thenR ?_)
    refine bp_ret Tryz.results22 rfl ?_
    exact ⟨rfl, F1⟩
  | true =>
    have e1 : rShow s = showP s.cls ++ [124] ++ s.q ++ [124] ++ itoa s.fuel ++ [124] ++ itoa s.given := by unfold rShow; rw [ho]; rfl
    rw [e1]
    simp only [ho] at hB
    refine ret_of Tryz.func22 rfl Tryz.ntmps22 rfl ?_
    refine c_seq (fun K1 hK1 => ?_)
    refine c_reg ?_ -- region 0 solve.go:136
    refine wl (ro_assign rfl) ?_
    refine wl_nil (x_then (hK1 _ _ ?_))
    clear hK1 K1
    refine forget [(0, _)] ⟨rfl, trivial⟩ (fun e => ?_)
    refine c_seq (fun K2 hK2 => ?_)
    refine c_reg ?_ -- region 1 solve.go:137
    refine wl (ro_move rfl) ?_
    refine wl (ro_nilCheck rfl) ?_
    refine wl (ro_fieldAddr (k := 1) rfl fo_82_1) ?_
    refine wl (ro_loadB rfl sc_25 (by assumption) rfl) ?_
    refine wl_call rfl en_38 (Show38 M.pr ok) ?_
    rintro _ w1 ⟨rfl, F1⟩
    have hB1 := hB.fram F1 (fun h => h)
    refine wl (ro_assign rfl) ?_
    refine wl_nil (x_then (hK2 _ _ ?_))
    clear hK2 K2
    refine c_seq (fun K3 hK3 => ?_)
    refine c_seq (fun K4 hK4 => ?_)
    refine c_reg ?_ -- region 2 solve.go:138
    refine wl (ro_move rfl) ?_
    refine wl (ro_nilCheck rfl) ?_
    refine wl (ro_fieldAddr (k := 2) rfl fo_82_2) ?_
    refine wl (ro_loadB rfl sc_4 (hB1) rfl) ?_
    refine wl (ro_not rfl) ?_
    refine wl_nil (x_then (hK4 _ _ ?_))
    clear hK4 K4
    refine wc_condF rfl ?_
    refine c_skip (x_then (hK3 _ _ ?_))
    clear hK3 K3
    refine forget [(0, _), (3, _)] ⟨rfl, rfl, trivial⟩ (fun e => ?_)
    refine c_seq (fun K5 hK5 => ?_)
    refine c_reg ?_ -- region 4 solve.go:141
    refine wl (ro_move rfl) ?_
    refine wl (ro_nilCheck rfl) ?_
    refine wl (ro_fieldAddr (k := 4) rfl fo_82_4) ?_
    refine wl (ro_loadB rfl sc_3 (hB1) rfl) ?_
    refine wl_call rfl en_39 (Itoa39 (by omega)) ?_
    rintro _ w2 ⟨rfl, F2⟩
    have hB2 := hB1.fram F2 (fun h => h)
    refine wl (ro_assign rfl) ?_
    refine wl_nil (x_then (hK5 _ _ ?_))
    clear hK5 K5
    refine forget [(0, _), (3, _), (4, _)] ⟨rfl, rfl, rfl, trivial⟩ (fun e => ?_)
    refine c_seq (fun K6 hK6 => ?_)
    refine c_reg ?_ -- region 5 solve.go:142
    refine wl (ro_move rfl) ?_
    refine wl (ro_nilCheck rfl) ?_
    refine wl (ro_fieldAddr (k := 5) rfl fo_82_5) ?_
    refine wl (ro_loadB rfl sc_3 (hB2) rfl) ?_
    refine wl_call rfl en_39 (Itoa39 (by omega)) ?_
    rintro _ w3 ⟨rfl, F3⟩
    have hB3 := hB2.fram F3 (fun h => h)
    refine wl (ro_assign rfl) ?_
    refine wl_nil (x_then (hK6 _ _ ?_))
    clear hK6 K6
    refine forget [(0, _), (3, _), (4, _), (5, _)] ⟨rfl, rfl, rfl, rfl, trivial⟩ (fun e => ?_)
    refine c_seq (fun K7 hK7 => ?_)
    refine c_reg ?_ -- region 6 solve.go:143
    refine wl (ro_move rfl) ?_
    refine wl (ro_catS rfl rfl (by simp; omega)) ?_
    refine wl (ro_move rfl) ?_
    refine wl (ro_nilCheck rfl) ?_
    refine wl (ro_fieldAddr (k := 3) rfl fo_82_3) ?_
    refine wl (ro_loadB rfl sc_9 (hB3) rfl) ?_
    refine wl (ro_catS rfl rfl (by simp; omega)) ?_
    refine wl (ro_catS rfl rfl (by simp; omega)) ?_
    refine wl (ro_move rfl) ?_
    refine wl (ro_catS rfl rfl (by simp; omega)) ?_
    refine wl (ro_catS rfl rfl (by simp; omega)) ?_
    refine wl (ro_move rfl) ?_
    refine wl (ro_catS rfl rfl (by simp; omega)) ?_
    refine wl (ro_assign rfl) ?_
    refine wl_nil (x_then (hK7 _ _ ?_))
    clear hK7 K7
    refine c_ret ?_
    refine bp_ret Tryz.results22 rfl ?_
    exact ⟨rfl, (F1.trans F2).trans F3⟩

end Go.Proofs.Qxb6500569aGreat
