import Derived.Test.Qxb6500568aGreatDoorQp
import Derived.Test.Qxb6500568aGreatDoorQq
import Derived.Test.Qxb6500568aGreatDoorQs
import Derived.Test.Qxb6500568aGreatDoorQr
import Derived.Test.Qxb6500568aGreatDoorRm
import Derived.Test.Qxb6500568aGreatDoorRd
/- The driver: Run. -/
namespace Go.Proofs.Qxb6500568aGreatDoor
open Ieee
set_option linter.unusedVariables false
set_option linter.unusedSimpArgs false
set_option linter.unusedSectionVars false

section
variable {F : Fns} {fuel n : Nat} {b : AS} {C : VC}
theorem ex_start (h0 : (fsAt F 0).np = 0) : exS (Psf F) 0 vNil vNil (s00 fuel) = astart (Psf F) fuel := by
  have hp : ((Psf F).getD 0 Proto.zero).np = 0 := by
    have := pr_psf F 0
    unfold Go.Proofs.Qxb6500568aGreatDoor.pr at this
    rw [this]; exact h0
  unfold exS astart aenter s00
  simp only [AS.setT, AS.th, thA]
  simp only [List.getD_cons_zero, if_true, List.set_cons_zero]
  rw [hp]
  rfl
theorem AV.s0 {f : Nat} {st : Nat} : AV ⟨[], [(0, [])], [⟨st, 0, []⟩], [], 0, f, 0, [], glob, false, ⟨0, 0, 0, [], []⟩⟩ := by
  refine ⟨fun v h => (by cases h), fun t h f hf => ?_, fun t h => ?_, (by show 1 ≤ 24; decide), (by show 1 ≤ 5; decide), (by show 1 ≤ 12; decide), (by show 0 ≤ 200; decide)⟩
  · rw [List.mem_singleton.1 h] at hf; cases hf
  · exact glob_ok t h
theorem LI.start (hC : C.F = F) (hF1 : 1 ≤ F.length) (hFO : ∀ k, FOK (fsAt F k)) (h00 : (fsAt F 0).np = 0 ∧ (fsAt F 0).ups = []) (hfu : 0 + fuel ≤ 9223372036854775807) (hg : GoN (Psf F) n (astart (Psf F) fuel) b) : LI C b n (astart (Psf F) fuel) := by
  subst hC
  have hA : AT (Psf C.F) (astart (Psf C.F) fuel) := by
    unfold astart aenter
    refine ⟨fun c p ids h => ?_, fun t h f hf => ?_, fun t h q => ?_, fun _ => ⟨Nat.zero_lt_one, rfl, (by intro q; cases q), fun c hc => (by cases hc), (by show ([0] : List Nat).Nodup; decide), rfl, fun c q => ?_⟩⟩
    · rcases c with _ | c
      · cases h
        refine ⟨by unfold Psf; rw [List.length_map]; exact hF1, ?_⟩
        rw [pr_psf]
        show 0 = (fsAt C.F 0).ups.length
        rw [h00.2]; rfl
      · cases h
    · obtain rfl := List.mem_singleton.1 h
      obtain rfl := List.mem_singleton.1 hf
      exact Nat.zero_lt_one
    · obtain rfl := List.mem_singleton.1 h
      cases q
    · rcases c with _ | c
      · cases q
      · cases q
  exact ⟨hg, AV.s0.enter (fun v h => by cases h), hA, PK.of hFO, by unfold astart aenter; exact Nat.le_refl 1, N1.ent (fun c hc q => by
    rcases c with _ | c
    · exact absurd rfl hc
    · cases q), ⟨hfu⟩⟩
end
theorem GoN.done {Ps : List Proto} {n : Nat} {a b : AS} (h : GoN Ps n a b) (hd : a.done = true) : a = b := by
  cases n with
  | zero => exact h
  | succ n =>
    obtain ⟨op, x, hs, -⟩ := h
    rw [hs.d] at hd
    cases hd
/-- the machine behind a run: at its end by itself, or wiped. -/
def WYR (C : VC) (ow : Nat → Nat) (b : AS) (E1 : Prop) (fuel : Nat) (out : Str) (w : World) : Prop := (AMq C w ow b ∧ E1) ∨ MOZ C w ow fuel out
section
variable {C : VC} {ow : Nat → Nat} {b : AS} {E1 : Prop} {fuel : Nat} {out : Str} {w u : World}
theorem WYR.thruN (h : WYR C ow b E1 fuel out w) (f : Fram none' w u) : WYR C ow b E1 fuel out u := by
  rcases h with ⟨h, k⟩ | h
  · exact .inl ⟨h.thruN f, k⟩
  · exact .inr (h.thruN f)
theorem WYR.hbput {x : Nat} (h : WYR C ow b E1 fuel out w) (f : Fram (one x) w u) (ht : ow x = 66 := by assumption) : WYR C ow b E1 fuel out u := by
  rcases h with ⟨h, k⟩ | h
  · exact .inl ⟨h.hbput f ht, k⟩
  · exact .inr (h.hbput f ht)
theorem WYR.nm (h : WYR C ow b E1 fuel out w) : NmV C w ow := by
  rcases h with ⟨h, -⟩ | h
  · obtain ⟨V, κ, Vv, U, h1, h2⟩ := h
    exact h1.nm
  · obtain ⟨L, Vv, U, T, -, -, -, q⟩ := h
    exact q
theorem WYR.df (h : WYR C ow b E1 fuel out w) : ∀ x, w.heap.size ≤ x → ow x = 66 := by
  rcases h with ⟨h, -⟩ | h
  · exact h.df
  · exact h.df
end
/-- a driver with its machine, behind a run. -/
def DrvO (mb tb nb xb bb db : Nat) (w w' : World) (ow : Nat → Nat) : Prop := ∃ ow' L' T' f bb' l', Xt w ow ow' ∧ (∀ x, ow' x ≠ 412 ∧ ow' x ≠ 413) ∧ VT ⟨mb, tb, ptr nb, ptr xb⟩ nb xb w' ow' L' T' ∧ Ck L' T' ∧ (Blk w'.heap nb [.slice (some ⟨bb', 0, none⟩) 24 24] 72 ∧ Blk w'.heap bb' l' 5 ∧ l'.length = 24) ∧ (ow' nb = 66 ∧ ow' bb' = 66) ∧ (bb' = bb ∨ w.heap.size ≤ bb') ∧ ow' db = 66 ∧ Blk w'.heap db [ptr mb, i64c f, .int .i64 0] 91 ∧ f < 5
section
variable {w : World} {ow : Nat → Nat} {mb tb nb xb db n : Nat} {L : VL} {T : List Tb} {F : Fns} {b : AS} {fuel : Int} {f0 : Nat}
set_option maxHeartbeats 16000000 in
theorem Run25 (h : VT ⟨mb, tb, ptr nb, ptr xb⟩ nb xb w ow L T) {bb : Nat} {lN : List Value} (hN1 : Blk w.heap nb [.slice (some ⟨bb, 0, none⟩) 24 24] 72) (hN2 : Blk w.heap bb lN 5) (hN3 : lN.length = 24) (khN1 : ow nb = 66) (khN2 : ow bb = 66) (hC : Blk w.heap db [ptr mb, i64c f0, .int .i64 0] 91) (khC : ow db = 66)
    (hF1' : 1 ≤ F.length) (hF13 : F.length ≤ 13) (hFO : ∀ k, FOK (fsAt F k)) (hsz : (img F).length ≤ 32768) (h00 : (fsAt F 0).np = 0 ∧ (fsAt F 0).ups = []) (hfu : fuel < 9223372036854775808) (hg : GoN (Psf F) n (astart (Psf F) fuel.toNat) b) (hb : b.done = true) (hno : ∀ x, ow x ≠ 412 ∧ ow x ≠ 413) :
    Ret Tryz.prog 25 [ptr db, S (img F), icv fuel] w (fun r w' => r = .agg (anc b.ans).toArray ∧ Fram (fun x => tg ow vtT x ∨ x = db ∨ x = nb ∨ x = bb) w w' ∧ DrvO mb tb nb xb bb db w w' ow) := by
  have hF : Fram (fun x => tg ow vtT x ∨ x = db ∨ x = nb ∨ x = bb) w w := Fram.refl _ _
  have hD : Fram (one db) w w := Fram.refl _ _
  have hGc : tg ow vtT db ∨ db = db ∨ db = nb ∨ db = bb := .inr (.inl rfl)
  have khN10 := khN1
  have khN20 := khN2
  have lnb0 := hN1.lt
  have lbb0 := hN2.lt
  have ldb0 := hC.lt
  have hdf : ∀ b, w.heap.size ≤ b → ow b = 66 := by obtain ⟨V, U, op⟩ := h.m; exact op.df
  have hnd : nb ≠ db := fun q => by rw [q] at hN1; exact absurd (hN1.uniq hC).2 (by decide)
  have hbd : bb ≠ db := fun q => by rw [q] at hN2; exact absurd (hN2.uniq hC).2 (by decide)
  have hnb : nb ≠ bb := fun q => by rw [q] at hN1; exact absurd (hN1.uniq hN2).2 (by decide)
  refine ret_of Tryz.func25 rfl Tryz.ntmps25 rfl ?_
  refine c_seq (fun K1 hK1 => ?_)
  refine c_reg ?_ -- region 0 co.go:72
  refine wl_new (ze_56) (fun b6 w1 hbb6 h6 F1 => ?_)
  have hbsb6 := Nat.le_trans hF.size hbb6
  have hbsb6 := Nat.le_trans hD.size hbb6
  have hnedbb6 : db < b6 := Nat.lt_of_lt_of_le hC.lt hbb6
  have hnenbb6 : nb < b6 := Nat.lt_of_lt_of_le hN1.lt hbb6
  have hnebbb6 : bb < b6 := Nat.lt_of_lt_of_le hN2.lt hbb6
  replace hF := hF.thenDrew.thenN F1
  replace hD := hD.thenDrew.thenN F1
  replace hC := F1.blkN hC
  replace hN1 := F1.blkN hN1
  replace hN2 := F1.blkN hN2
  refine wl_nil (x_then (hK1 _ _ ?_))
  clear hK1 K1
  refine forget [(0, _), (1, _), (2, _), (6, _)] ⟨rfl, rfl, rfl, rfl, trivial⟩ (fun e => ?_)
  refine c_seq (fun K2 hK2 => ?_)
  refine c_reg ?_ -- region 1 co.go:73
  refine wl (ro_move rfl) ?_
  refine wl (ro_nilCheck rfl) ?_
  refine wl (ro_fieldAddr (k := 1) rfl fo_91_1) ?_
  refine wl_put rfl rfl rfl sz_3 hC (by simp) (rfl) (fun w2 hC F2 => ?_)
  replace hF := hF.thenDrew.thenO F2 (by first | exact .inr (by omega) | exact .inl rfl | exact .inl (by assumption) | assumption)
  replace hD := hD.thenDrew.thenO F2 (by first | exact .inr (by omega) | exact .inl rfl | exact .inl (by assumption) | assumption)
  replace hN1 := F2.blkO hN1 (by first | (simp only [ne_eq, hnd, hnd.symm, hbd, hbd.symm, hnb, hnb.symm, not_false_eq_true]; done) | omega)
  replace hN2 := F2.blkO hN2 (by first | (simp only [ne_eq, hnd, hnd.symm, hbd, hbd.symm, hnb, hnb.symm, not_false_eq_true]; done) | omega)
  replace h6 := F2.blkO h6 (by first | (simp only [ne_eq, hnd, hnd.symm, hbd, hbd.symm, hnb, hnb.symm, not_false_eq_true]; done) | omega)
  refine wl_nil (x_then (hK2 _ _ ?_))
  clear hK2 K2
  refine forget [(0, _), (1, _), (2, _), (6, _)] ⟨rfl, rfl, rfl, rfl, trivial⟩ (fun e => ?_)
  refine c_seq (fun K3 hK3 => ?_)
  have khC2 := khC
  have hv2 : VT ⟨mb, tb, ptr nb, ptr xb⟩ nb xb w2 ow L T := ⟨h.m.far hD (fun x q _ z ↦ by have z : x = db := z; rw [z, khC] at q; unfold vmT at q; omega) (Xt.refl _ _) (fun x hx ↦ hdf x (by have := hD.size; omega)), h.t.far hD (fun x q _ z ↦ by have z : x = db := z; rw [z, khC] at q; unfold rtag at q; omega) (Xt.refl _ _)⟩
  have kh6 : ow b6 = 66 := hdf b6 hbsb6
  refine c_reg ?_ -- region 2 co.go:74
  refine wl (ro_move rfl) ?_
  refine wl (ro_nilCheck rfl) ?_
  refine wl (ro_fieldAddr (k := 0) rfl fo_91_0) ?_
  refine wl (ro_loadB rfl sc_42 (hC) rfl) ?_
  refine wl (ro_move rfl) ?_
  refine wl (ro_move rfl) ?_
  refine wl_call rfl en_38 (Load38 hv2 rfl hF1' hF13 hFO hsz h00 hfu) ?_
  rintro _ u3 ⟨rfl, ow3, x3, hv3, f3⟩
  obtain ⟨hC, khC⟩ := vm_loc' x3 f3 hC khC
  obtain ⟨h6, kh6⟩ := vm_loc' x3 f3 h6 kh6
  obtain ⟨hN1, khN1⟩ := vm_loc' x3 f3 hN1 khN1
  obtain ⟨hN2, khN2⟩ := vm_loc' x3 f3 hN2 khN2
  have hs3 := hF.size
  replace hF := hF.trans' f3 (fun _ _ q ↦ .inl q)
  obtain ⟨⟨V3, U3, op3⟩, ht3⟩ := hv3
  have hdf3 := op3.df
  have lN1 := hN1.lt
  have lN2 := hN2.lt
  obtain ⟨ow4, how4⟩ : ∃ f : Nat → Nat, f = ot (ot ow3 nb 412) bb 413 := ⟨_, rfl⟩
  have hrg : ∀ x, ow3 x ≠ 66 → ow4 x = ow3 x := fun x hx ↦ by rw [how4, ot_old (fun q ↦ hx (by rw [q]; exact khN2)), ot_old (fun q ↦ hx (by rw [q]; exact khN1))]
  have hoo : ∀ x, x ≠ nb → x ≠ bb → ow4 x = ow3 x := fun x h1 h2 ↦ by rw [how4, ot_old h2, ot_old h1]
  have op4 := op3.rg (ow' := ow4) (fun x q ↦ hrg x (fun z ↦ by rw [z] at q; unfold vmT at q; omega)) (fun x hx ↦ by rw [hoo x (by omega) (by omega)]; exact hdf3 x hx)
  have ht4 := ht3.rg (ow' := ow4) (fun x q ↦ hrg x (fun z ↦ by rw [z] at q; unfold rtag at q; omega))
  obtain ⟨pg, pc, hp2⟩ : ∃ pg pc, V3 2 = .slice (some ⟨pg, 0, none⟩) F.length pc := by
    have hO := op3.a 2 (.inl (by decide))
    have hl : ((L.load F fuel.toNat).A 2).1 = F.length := by
      rw [load_A 2 (by decide), (VL.protos_bd F L.zero).1]; show 0 + F.length = F.length; omega
    rw [hl] at hO
    rcases hO.o.2 with ⟨-, q⟩ | ⟨g, cap, l, q, -⟩
    · omega
    · exact ⟨g, cap, q⟩
  obtain ⟨C, hCC⟩ : ∃ C : VC, C = ⟨⟨mb, tb, ptr nb, ptr xb⟩, nb, xb, F, pg, pc⟩ := ⟨_, rfl⟩
  have hCF : C.F = F := by rw [hCC]
  have hfuN : fuel.toNat < 9223372036854775808 := by omega
  have hR : AMq C u3 ow4 (s00 fuel.toNat) := by
    subst hCC
    exact load_am (L := L) (V := V3) (U := U3) op4 ht4 ⟨bb, lN, hN1, hN2, hN3, by rw [how4, ot_old hnb, ot_self], by rw [how4, ot_self]⟩ ⟨rfl, rfl, hFO, hF13, hsz⟩ hp2 hfuN
  have khC4 : ow4 db = 66 := by rw [hoo db hnd.symm hbd.symm]; exact khC
  have ne6n : b6 ≠ nb := by have := hN1.lt; omega
  have ne6b : b6 ≠ bb := by omega
  have kh64 : ow4 b6 = 66 := by rw [hoo b6 (by omega) (by omega)]; exact kh6
  have hLI := LI.start (C := C) (fuel := fuel.toNat) hCF hF1' hFO h00 (by omega) hg
  have hmb : C.E.mb = mb := by rw [hCC]
  have hI : CoI C b db n 0 u3 ow4 0 vNil vNil (s00 fuel.toNat) := ⟨hR, Nat.zero_lt_one, .inl rfl, fun _ ↦ rfl, .nil _ _ _, .nil _ _ _, (by rw [hCF, ex_start h00.1]; exact hLI), rfl, (by unfold coc; rw [hmb]; exact hC), khC4⟩
  refine wl (ro_assign rfl) ?_
  refine wl_nil (x_then (hK3 _ _ ?_))
  clear hK3 K3
  refine c_seq (fun K4 hK4 => ?_)
  refine c_seq (fun K5 hK5 => ?_)
  refine c_reg ?_ -- region 3 co.go:75
  refine wl (ro_move rfl) ?_
  refine wl (ro_cmp (r := false) rfl rfl rfl) ?_
  refine wl_nil (x_then (hK5 _ _ ?_))
  clear hK5 K5
  refine wc_condF rfl ?_
  refine c_skip (x_then (hK4 _ _ ?_))
  clear hK4 K4
  refine forget [(0, _), (6, _)] ⟨rfl, rfl, trivial⟩ (fun e => ?_)
  refine c_seq (fun K6 hK6 => ?_)
  refine c_reg ?_ -- region 5 co.go:78
  refine wl (ro_move rfl) ?_
  refine wl (ro_build rfl bld_119) ?_
  refine wl (ro_build rfl bld_119) ?_
  refine wl_call rfl en_39 (runCo (C := C) (cb := db) (th := 0) (va := vNil) (vb := vNil) hb n (s := s00 fuel.toNat) (d := 0) (by rw [IntKind.wrap_i64]; rfl) hI) ?_
  rintro r60 u60 ⟨m3, z3, ow5, s3, kk, v3, e3, hm3, hL3, x60, f60, hC3, hsk3, hdn3, rfl, hE3⟩
  have hsz0 := hF.size
  obtain ⟨hbi, hbv, hbt⟩ := BI.goN (Ps := Psf F) BI.start hLI.av (by have q := hLI.sh; rw [hCF] at q; exact q) (PK.of hFO) hg
  have hD2 := (D2.goN (D2.nd rfl) hg).d hb
  have hb3 : z3 = b := by
    rcases hE3 with ⟨-, -, ok, q1, q2, q3⟩ | ⟨-, ⟨q2, -⟩, -⟩
    · have hsk : s3.stack = [] := hsk3
      have e : aback ok v3 s3 = afin (if ok then 0 else 12) (shV v3) s3 := by unfold aback; rw [hsk]
      rw [e] at q3
      exact hL3.go.done (by rw [← q3]; rfl)
    · exact hL3.go.done q2
  have htb : 1 ≤ b.tabs.length := by rw [← hb3]; exact hL3.tb
  have hMO : MOF C u60 ow5 s3.fuel s3.out := by
    rcases hE3 with ⟨q, -⟩ | ⟨-, -, q⟩
    · exact q.mf
    · exact q.mf
  have hAns : (kk = 3 ∧ b.ans = ⟨e3, s3.fuel, s3.first, s3.out, [45]⟩) ∨ ((kk = 1 ∨ kk = 2) ∧ (wfV v3 = true ∧ W64 v3.N) ∧ b.ans = ⟨if kk = 1 then 0 else 12, s3.fuel, s3.first, s3.out, shV v3⟩) := by
    rcases hE3 with ⟨-, -, ok, q1, q2, q3⟩ | ⟨q1, ⟨q2, q3, -⟩, -⟩
    · right
      have hsk : s3.stack = [] := hsk3
      have e : aback ok v3 s3 = afin (if ok then 0 else 12) (shV v3) s3 := by unfold aback; rw [hsk]
      rw [e] at q3
      have hb3 : z3 = b := hL3.go.done (by rw [← q3]; rfl)
      refine ⟨by cases ok <;> simp at q1 <;> omega, q2, ?_⟩
      rw [← hb3, ← q3, q1]
      cases ok <;> rfl
    · left
      have hb3 : z3 = b := hL3.go.done q2
      exact ⟨q1, by rw [← hb3]; exact q3⟩
  have hfs : s3.first = b.first ∧ s3.out = b.out := by
    rcases hAns with ⟨-, q⟩ | ⟨-, -, q⟩
    · rw [q] at hD2; exact hD2
    · rw [q] at hD2; exact hD2
  have hf5 : s3.first < 5 := by rw [hfs.1]; have := hbi.f; have := hbv.nt; omega
  have ho200 : s3.out.length ≤ 200 := by rw [hfs.2]; exact hbv.out
  have hfin : b.ans.E = 0 ∨ b.ans.E = 12 → FinS F b := fun hE => ⟨hF1', hF13, hFO, hbv, hbt, hbi, htb, fun i h4 => by
    have e := hbi.c4 i h4
    rw [e, hbi.d hb hE] at h4
    cases h4⟩
  have hW : WYR C ow5 b (FinS F b) s3.fuel s3.out u60 := by
    rcases hE3 with ⟨q, -, ok, q1, q2, q3⟩ | ⟨-, -, q⟩
    · left
      have hsk : s3.stack = [] := hsk3
      have e : aback ok v3 s3 = afin (if ok then 0 else 12) (shV v3) s3 := by unfold aback; rw [hsk]
      rw [e, hb3] at q3
      refine ⟨by rw [← q3]; exact q.same rfl rfl rfl rfl rfl rfl, hfin ?_⟩
      rw [← q3]
      cases ok
      · exact .inr rfl
      · exact .inl rfl
    · exact .inr q
  have hdf5 := hW.df
  have hxx : Xt w ow (rt66 ow5) := fun x hx => by
    by_cases q1 : x = nb
    · rw [q1, khN10]
      unfold rt66
      rw [if_pos (.inl (by rw [x60 nb (by omega), how4, ot_old hnb, ot_self]))]
    · by_cases q2 : x = bb
      · rw [q2, khN20]
        unfold rt66
        rw [if_pos (.inr (by rw [x60 bb (by omega), how4, ot_self]))]
      · have e5 : ow5 x = ow x := by rw [x60 x (by omega), hoo x q1 q2, x3 x (by omega)]
        rw [rt66_old (by rw [e5]; exact hno x), e5]
  have hDO : ∀ u : World, WYR C ow5 b (FinS F b) s3.fuel s3.out u → Blk u.heap db [ptr mb, i64c s3.first, .int .i64 0] 91 → DrvO mb tb nb xb bb db w u ow := fun u hu hB => by
    have hdb : rt66 ow5 db = 66 := rt66_66 (by rw [x60 db (by omega)]; exact khC4)
    obtain ⟨bb', l', y1, y2, y3, y4, y5⟩ := hu.nm
    have hbb' : bb' = bb ∨ w.heap.size ≤ bb' := by
      by_cases q : bb' = bb
      · exact .inl q
      · right
        apply Classical.byContradiction
        intro hn
        by_cases q1 : bb' = nb
        · rw [q1] at y2
          subst hCC
          exact absurd (y1.uniq y2).2 (by decide)
        · rw [x60 bb' (by omega), hoo bb' q1 q, x3 bb' (by omega)] at y5
          exact (hno bb').2 y5
    have z4 : rt66 ow5 C.nb = 66 := by unfold rt66; rw [if_pos (.inl y4)]
    have z5 : rt66 ow5 bb' = 66 := by unfold rt66; rw [if_pos (.inr y5)]
    subst hCC
    rcases hu with ⟨q1, q2⟩ | q
    · obtain ⟨L', g1, g2, g3⟩ := q1.rest q2
      exact ⟨_, L', _, _, bb', l', hxx, rt66_no ow5, g1, g2, ⟨y1, y2, y3⟩, ⟨z4, z5⟩, hbb', hdb, hB, hf5⟩
    · obtain ⟨L', T', g1, g2, g3⟩ := q.rest ho200
      exact ⟨_, L', T', _, bb', l', hxx, rt66_no ow5, g1, g2, ⟨y1, y2, y3⟩, ⟨z4, z5⟩, hbb', hdb, hB, hf5⟩
  obtain ⟨h6, kh65⟩ := cd_loc x60 f60 h6 kh64 (by omega)
  have hsz3 := hF.size
  replace hF := hF.trans' f60 (fun x hx q ↦ by
    rcases q with q | q
    · by_cases q1 : x = nb
      · exact .inr (.inr (.inl q1))
      · by_cases q2 : x = bb
        · exact .inr (.inr (.inr q2))
        · left
          have q : vtT (ow4 x) := q
          rw [hoo x q1 q2, x3 x (by omega)] at q
          exact q
    · exact .inr (.inl q))
  have l6 := h6.lt
  have hC := hC3
  unfold coc at hC
  rw [hmb] at hC
  have hU : Fram none' u60 u60 := Fram.refl _ _
  have hV : Fram none' u60 u60 := Fram.refl _ _
  refine wl_new (ze_134) (fun b8 w3 hbb8 h8 F3 => ?_)
  have hbsb8 := Nat.le_trans hF.size hbb8
  have hnedbb8 : db < b8 := Nat.lt_of_lt_of_le hC.lt hbb8
  have hneb6b8 : b6 < b8 := Nat.lt_of_lt_of_le h6.lt hbb8
  have hbsb8 := Nat.le_trans hU.size hbb8
  replace hF := hF.thenDrew.thenN F3
  replace hC := F3.blkN hC
  replace h6 := F3.blkN h6
  replace hU := hU.thenDrew.thenN F3
  replace hW := hW.thruN ((Fram.refl none' _).thenDrew.thenN F3)
  have kh85 : ow5 b8 = 66 := hdf5 b8 (by have := hbsb8; omega)
  refine wl_puta rfl rfl ((resc_one _ _ _)) sz_134 (rfl) h8 ((Nat.le_refl 5)) (rfl) (fun w4 h8 F4 => ?_)
  have hcx_ := trivial
  replace hF := hF.thenDrew.thenO F4 (by first | exact .inr (by omega) | exact .inl rfl | exact .inl (by assumption) | assumption)
  replace hC := F4.blkO hC (by first | (simp only [ne_eq, hnd, hnd.symm, hbd, hbd.symm, hnb, hnb.symm, not_false_eq_true]; done) | omega)
  replace h6 := F4.blkO h6 (by first | (simp only [ne_eq, hnd, hnd.symm, hbd, hbd.symm, hnb, hnb.symm, not_false_eq_true]; done) | omega)
  replace hU := hU.thenDrew.thenO F4 (by first | exact .inr (by omega) | exact .inl rfl | exact .inl (by assumption) | assumption)
  replace hW := hW.hbput ((Fram.refl (one b8) _).thenDrew.thenO F4 (.inl rfl))
  refine wl_nil (x_then (hK6 _ _ ?_))
  clear hK6 K6
  refine forget [(0, _), (6, _), (8, _)] ⟨rfl, rfl, rfl, trivial⟩ (fun e => ?_)
  refine c_seq (fun K7 hK7 => ?_)
  refine c_reg ?_ -- region 6 co.go:79
  refine wl (ro_move rfl) ?_
  refine wl (ro_nilCheck rfl) ?_
  refine wl (ro_fieldAddr (k := 0) rfl fo_91_0) ?_
  refine wl (ro_loadB rfl sc_42 (hC) rfl) ?_
  refine wl_call rfl en_40 (by rw [← hmb]; exact outA (hMO.thruN hU)) ?_
  rintro _ w5 ⟨rfl, F5⟩
  replace hF := hF.thenDrew.thenN F5
  replace hC := F5.blkN hC
  replace h6 := F5.blkN h6
  replace hU := hU.thenDrew.thenN F5
  replace hW := hW.thruN ((Fram.refl none' _).thenDrew.thenN F5)
  replace h8 := F5.blkN h8
  refine wl (ro_assign rfl) ?_
  refine wl_nil (x_then (hK7 _ _ ?_))
  clear hK7 K7
  refine forget [(0, _), (6, _), (8, _), (9, _)] ⟨rfl, rfl, rfl, rfl, trivial⟩ (fun e => ?_)
  refine c_seq (fun K8 hK8 => ?_)
  refine c_reg ?_ -- region 7 co.go:80
  refine wl (ro_move rfl) ?_
  refine wl (ro_nilCheck rfl) ?_
  refine wl (ro_fieldAddr (k := 0) rfl fo_91_0) ?_
  refine wl (ro_loadB rfl sc_42 (hC) rfl) ?_
  refine wl_call rfl en_41 (by rw [← hmb]; exact fuelA (hMO.thruN hU)) ?_
  rintro _ w6 ⟨rfl, F6⟩
  replace hF := hF.thenDrew.thenN F6
  replace hC := F6.blkN hC
  replace h6 := F6.blkN h6
  replace hU := hU.thenDrew.thenN F6
  replace hW := hW.thruN ((Fram.refl none' _).thenDrew.thenN F6)
  replace h8 := F6.blkN h8
  refine wl (ro_assign rfl) ?_
  refine wl_nil (x_then (hK8 _ _ ?_))
  clear hK8 K8
  refine c_seq (fun K9 hK9 => ?_)
  refine c_seq (fun K10 hK10 => ?_)
  refine c_reg ?_ -- region 8 co.go:81
  refine wl (ro_fieldAddr (k := 0) rfl fo_134_0) ?_
  refine wl (ro_loadB rfl sc_3 (h8) rfl) ?_
  refine wl (ro_cmp rfl rfl rfl) ?_
  refine wl_nil (x_then (hK10 _ _ ?_))
  clear hK10 K10
  refine wc_cond rfl (fun hc43 => ?_) (fun hc43 => ?_)
  · try simp only [decide_eq_true_eq, decide_eq_false_iff_not, Bool.not_eq_true', Bool.not_eq_false', Bool.not_eq_eq_eq_not, Bool.not_true, Bool.not_false, beq_iff_eq, bne_iff_ne, ne_eq, beq_eq_false_iff_ne, bne_eq_false_iff_eq, gt_iff_lt, ge_iff_le, Int.not_lt, Int.not_le] at hc43
    refine c_seq (fun K11 hK11 => ?_)
    refine c_piL 9 [(0, false), (1, false), (2, false), (3, false), (4, false), (5, false), (6, false), (7, false), (8, false)] (SameH _) mixed (by kernel_rfl) rfl (by kernel_rfl) (po_then (po_then (po_bp))) (sameH_now _ _) ?_ -- region 9 co.go:82
    refine ql_ro rfl (fun w hS => ro_fieldAddr (k := 4) rfl fo_134_2) ?_
    refine ql_ro rfl (fun w hS => ro_loadB rfl sc_54 (Blk.of_heap h8 hS) rfl) ?_
    refine ql_ro rfl (fun w hS => ro_move rfl) ?_
    refine ql_ro rfl (fun w hS => ro_move rfl) ?_
    refine ql_ro rfl (fun w hS => ro_nilCheck rfl) ?_
    refine ql_ro rfl (fun w hS => ro_fieldAddr (k := 1) rfl fo_91_1) ?_
    refine ql_ro rfl (fun w hS => ro_loadB rfl sc_3 (Blk.of_heap hC hS) rfl) ?_
    refine ql_ro rfl (fun w hS => ro_move rfl) ?_
    refine ql_ro rfl (fun w hS => ro_build rfl bld_56_0_1_2_3_4) ?_
    refine ql_puta rfl rfl rfl ((anc_one ⟨e3, s3.fuel, s3.first, s3.out, [45]⟩)) sz_56 (rfl) h6 ((Nat.le_refl 5)) (rfl) (fun w7 h6 F7 => ?_)
    have hcx_ := trivial
    replace hF := hF.thenDrew.thenO F7 (by first | exact .inr (by omega) | exact .inl rfl | exact .inl (by assumption) | assumption)
    replace hC := F7.blkO hC (by first | (simp only [ne_eq, hnd, hnd.symm, hbd, hbd.symm, hnb, hnb.symm, not_false_eq_true]; done) | omega)
    replace hW := hW.hbput ((Fram.refl (one b6) _).thenDrew.thenO F7 (.inl rfl))
    replace h8 := F7.blkO h8 (by first | (simp only [ne_eq, hnd, hnd.symm, hbd, hbd.symm, hnb, hnb.symm, not_false_eq_true]; done) | omega)
    refine x_then (hK11 _ _ ?_)
    clear hK11 K11
    refine c_ret (x_thenR ?_)
    refine bq_ret (res1 Tryz.results25 (rv_c rfl ag_56 (h6) (rfl))) ?_
    rcases hAns with ⟨-, q⟩ | ⟨q, -⟩
    · exact ⟨by rw [q]; rfl, hF, hDO _ hW hC⟩
    · omega
  · try simp only [decide_eq_true_eq, decide_eq_false_iff_not, Bool.not_eq_true', Bool.not_eq_false', Bool.not_eq_eq_eq_not, Bool.not_true, Bool.not_false, beq_iff_eq, bne_iff_ne, ne_eq, beq_eq_false_iff_ne, bne_eq_false_iff_eq, gt_iff_lt, ge_iff_le, Int.not_lt, Int.not_le] at hc43
    obtain ⟨hk12, hw3, hA⟩ : (kk = 1 ∨ kk = 2) ∧ (wfV v3 = true ∧ W64 v3.N) ∧ b.ans = ⟨if kk = 1 then 0 else 12, s3.fuel, s3.first, s3.out, shV v3⟩ := by
      rcases hAns with ⟨q, -⟩ | q
      · omega
      · exact q
    have hlen : v3.S.length ≤ 1000000 := Nat.le_trans (wf_sl hw3.1) (by decide)
    refine c_skip (x_then (hK9 _ _ ?_))
    clear hK9 K9
    refine forget [(0, _), (6, _), (8, _), (9, _), (10, _)] ⟨rfl, rfl, rfl, rfl, rfl, trivial⟩ (fun e => ?_)
    refine c_seq (fun K12 hK12 => ?_)
    refine c_reg ?_ -- region 10 co.go:84
    refine wl (ro_fieldAddr (k := 1) rfl fo_134_1) ?_
    refine wl (ro_loadAggB rfl ag_119 (h8) rfl rfl) ?_
    refine wl_call rfl en_42 (ShowVal42 (wf_f hw3.1 hw3.2) hlen) ?_
    rintro _ w8 ⟨rfl, F8⟩
    replace hF := hF.thenDrew.thenN F8
    replace hC := F8.blkN hC
    replace h6 := F8.blkN h6
    replace hW := hW.thruN ((Fram.refl none' _).thenDrew.thenN F8)
    replace h8 := F8.blkN h8
    refine wl (ro_assign rfl) ?_
    refine wl_nil (x_then (hK12 _ _ ?_))
    clear hK12 K12
    refine forget [(0, _), (6, _), (8, _), (9, _), (10, _), (11, _)] ⟨rfl, rfl, rfl, rfl, rfl, rfl, trivial⟩ (fun e => ?_)
    refine c_seq (fun K13 hK13 => ?_)
    refine c_reg ?_ -- region 11 co.go:85
    refine wl (ro_assign rfl) ?_
    refine wl_nil (x_then (hK13 _ _ ?_))
    clear hK13 K13
    refine c_seq (fun K14 hK14 => ?_)
    refine c_seq (fun K15 hK15 => ?_)
    refine c_reg ?_ -- region 12 co.go:86
    refine wl (ro_fieldAddr (k := 0) rfl fo_134_0) ?_
    refine wl (ro_loadB rfl sc_3 (h8) rfl) ?_
    refine wl (ro_cmp rfl rfl rfl) ?_
    refine wl_nil (x_then (hK15 _ _ ?_))
    clear hK15 K15
    refine wc_cond rfl (fun hc58 => ?_) (fun hc58 => ?_)
    · try simp only [decide_eq_true_eq, decide_eq_false_iff_not, Bool.not_eq_true', Bool.not_eq_false', Bool.not_eq_eq_eq_not, Bool.not_true, Bool.not_false, beq_iff_eq, bne_iff_ne, ne_eq, beq_eq_false_iff_ne, bne_eq_false_iff_eq, gt_iff_lt, ge_iff_le, Int.not_lt, Int.not_le] at hc58
      refine c_reg ?_ -- region 13 co.go:87
      refine wl (ro_assign rfl) ?_
      refine wl_nil (x_then (hK14 _ _ ?_))
      clear hK14 K14
      refine forget [(0, _), (6, _), (9, _), (10, _), (11, _), (12, _)] ⟨rfl, rfl, rfl, rfl, rfl, rfl, trivial⟩ (fun e => ?_)
      refine c_seq (fun K16 hK16 => ?_)
      refine c_reg ?_ -- region 14 co.go:89
      refine wl (ro_move rfl) ?_
      refine wl (ro_move rfl) ?_
      refine wl (ro_move rfl) ?_
      refine wl (ro_nilCheck rfl) ?_
      refine wl (ro_fieldAddr (k := 1) rfl fo_91_1) ?_
      refine wl (ro_loadB rfl sc_3 (hC) rfl) ?_
      refine wl (ro_move rfl) ?_
      refine wl (ro_move rfl) ?_
      refine wl (ro_build rfl bld_56_0_1_2_3_4) ?_
      refine wl_puta rfl rfl ((by simp [Value.oneCell', i64c, S])) sz_56 (rfl) h6 ((Nat.le_refl 5)) (rfl) (fun w9 h6 F9 => ?_)
      have hcx_ := trivial
      replace hF := hF.thenDrew.thenO F9 (by first | exact .inr (by omega) | exact .inl rfl | exact .inl (by assumption) | assumption)
      replace hC := F9.blkO hC (by first | (simp only [ne_eq, hnd, hnd.symm, hbd, hbd.symm, hnb, hnb.symm, not_false_eq_true]; done) | omega)
      replace hW := hW.hbput ((Fram.refl (one b6) _).thenDrew.thenO F9 (.inl rfl))
      replace h8 := F9.blkO h8 (by first | (simp only [ne_eq, hnd, hnd.symm, hbd, hbd.symm, hnb, hnb.symm, not_false_eq_true]; done) | omega)
      refine wl_nil (x_then (hK16 _ _ ?_))
      clear hK16 K16
      refine c_ret ?_
      refine bq_ret (res1 Tryz.results25 (rv_c rfl ag_56 (h6) (rfl))) ?_
      exact ⟨by rw [hA, if_neg (by omega)]; rfl, hF, hDO _ hW hC⟩
    · try simp only [decide_eq_true_eq, decide_eq_false_iff_not, Bool.not_eq_true', Bool.not_eq_false', Bool.not_eq_eq_eq_not, Bool.not_true, Bool.not_false, beq_iff_eq, bne_iff_ne, ne_eq, beq_eq_false_iff_ne, bne_eq_false_iff_eq, gt_iff_lt, ge_iff_le, Int.not_lt, Int.not_le] at hc58
      refine c_skip (x_then (hK14 _ _ ?_))
      clear hK14 K14
      refine forget [(0, _), (6, _), (9, _), (10, _), (11, _), (12, _)] ⟨rfl, rfl, rfl, rfl, rfl, rfl, trivial⟩ (fun e => ?_)
      refine c_seq (fun K17 hK17 => ?_)
      refine c_reg ?_ -- region 14 co.go:89
      refine wl (ro_move rfl) ?_
      refine wl (ro_move rfl) ?_
      refine wl (ro_move rfl) ?_
      refine wl (ro_nilCheck rfl) ?_
      refine wl (ro_fieldAddr (k := 1) rfl fo_91_1) ?_
      refine wl (ro_loadB rfl sc_3 (hC) rfl) ?_
      refine wl (ro_move rfl) ?_
      refine wl (ro_move rfl) ?_
      refine wl (ro_build rfl bld_56_0_1_2_3_4) ?_
      refine wl_puta rfl rfl ((by simp [Value.oneCell', i64c, S])) sz_56 (rfl) h6 ((Nat.le_refl 5)) (rfl) (fun w10 h6 F10 => ?_)
      have hcx_ := trivial
      replace hF := hF.thenDrew.thenO F10 (by first | exact .inr (by omega) | exact .inl rfl | exact .inl (by assumption) | assumption)
      replace hC := F10.blkO hC (by first | (simp only [ne_eq, hnd, hnd.symm, hbd, hbd.symm, hnb, hnb.symm, not_false_eq_true]; done) | omega)
      replace hW := hW.hbput ((Fram.refl (one b6) _).thenDrew.thenO F10 (.inl rfl))
      replace h8 := F10.blkO h8 (by first | (simp only [ne_eq, hnd, hnd.symm, hbd, hbd.symm, hnb, hnb.symm, not_false_eq_true]; done) | omega)
      refine wl_nil (x_then (hK17 _ _ ?_))
      clear hK17 K17
      refine c_ret ?_
      refine bq_ret (res1 Tryz.results25 (rv_c rfl ag_56 (h6) (rfl))) ?_
      exact ⟨by rw [hA, if_pos (by omega)]; rfl, hF, hDO _ hW hC⟩
end
end Go.Proofs.Qxb6500568aGreatDoor
