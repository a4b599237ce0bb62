import Derived.Test.Qxb6500568aGreatDoorQk
/- The machine: run, and what it catches. -/
namespace Go.Proofs.Qxb6500568aGreatDoor
open Ieee
set_option linter.unusedVariables false
set_option linter.unusedSimpArgs false
set_option linter.unusedSectionVars false

theorem en_203 : Enters Tryz.prog 203 := enters_of Tryz.func203 (by kernel_rfl) (by kernel_rfl)
theorem if_20 : Tryz.prog.underlying 20 = some (.interface (Tryz.prog.methodsAt 20)) := by kernel_rfl
theorem nif_332 : notIf Tryz.prog 332 = true := by kernel_rfl
theorem nif_336 : notIf Tryz.prog 336 = true := by kernel_rfl
section
variable {P : Program} {n : Nat} {e : Nat → Option Value} {w : World} {ops : Array Oper} {Q : Exit → Act → List Frame → World → Prop}
theorem ws_rec1 {d1 : Nat} {ty1 : TypeId} {ps1 : String} {af1 : Array Edge} {cs cs' : List Frame} {v : Value} (h1 : d1 < n)
    (hrec : recoverD cs = some (v, cs') ∨ (recoverD cs = none ∧ v = .nilIface ∧ cs' = cs))
    (k : Q .normal (Fr n (upd e d1 v) []) cs' w) : wpOpsS P #[⟨some d1, .call ⟨.builtin .recover, #[], #[]⟩, ty1, ps1, af1, none⟩] Q [0] (Fr n e []) cs w := by
  have hr : ∀ ρ, (execOp ρ ⟨some d1, .call ⟨.builtin .recover, #[], #[]⟩, ty1, ps1, af1, none⟩).run P w = .ok .recover w := by
    intro ρ
    simp [execOp, resolve, invoke, builtin]
  rcases hrec with hrec | ⟨hrec, rfl, rfl⟩
  · simp [wpOpsS, Region.wanted, hr, hrec, put_some]
    exact k
  · simp [wpOpsS, Region.wanted, hr, hrec, put_some]
    exact k
end

section
variable {C : VC} {w w0 : World} {ow ow0 : Nat → Nat} {s b : AS} {n cu fuel : Nat} {out : Str}
/-- what is read of a machine at the end. -/
def MOF (C : VC) (w : World) (ow : Nat → Nat) (fuel : Nat) (out : Str) : Prop := ∃ L Vv U T, VOp C.E w ow L Vv U ∧ (L.fu = i64c fuel ∧ L.A 11 = (out.length, out.map u8c)) ∧ RTab w ow C.nb C.xb T ∧ NmV C w ow
/-- nothing is loaded: the machine has ended with e. -/
def Zr (L : VL) (e : Nat) : Prop := (∀ i, 2 ≤ i → i ≤ 8 → L.A i = (0, [])) ∧ L.nt = 0 ∧ L.en = i64c e ∧ e ≠ 0
def MOZ (C : VC) (w : World) (ow : Nat → Nat) (fuel : Nat) (out : Str) : Prop := ∃ L Vv U T, VOp C.E w ow L Vv U ∧ ((L.fu = i64c fuel ∧ L.A 11 = (out.length, out.map u8c)) ∧ ∃ e, Zr L e) ∧ RTab w ow C.nb C.xb T ∧ NmV C w ow
theorem MOZ.mf (h : MOZ C w ow fuel out) : MOF C w ow fuel out := by
  obtain ⟨L, Vv, U, T, op, h1, h2⟩ := h
  exact ⟨L, Vv, U, T, op, h1.1, h2⟩
theorem AMq.mf (h : AMq C w ow s) : MOF C w ow s.fuel s.out := by
  obtain ⟨V, κ, Vv, U, h1, -⟩ := h
  obtain ⟨L, op, vl⟩ := h1.ex
  exact ⟨L, Vv, U, _, op, ⟨vl.f, vl.o⟩, h1.tb, h1.nm⟩
theorem MOF.thruN {u : World} {fuel : Nat} {out : Str} (h : MOF C w ow fuel out) (f : Fram none' w u) : MOF C u ow fuel out := by
  obtain ⟨L, Vv, U, T, op, h1, h2, h3⟩ := h
  exact ⟨L, Vv, U, T, op.thruN f, h1, h2.far f (fun _ _ _ q => q) (Xt.refl _ _), h3.far f (fun _ _ _ q => q) (Xt.refl _ _)⟩
theorem MOF.hbput {u : World} {fuel b : Nat} {out : Str} (h : MOF C w ow fuel out) (f : Fram (one b) w u) (ht : ow b = 66 := by assumption) : MOF C u ow fuel out := by
  obtain ⟨L, Vv, U, T, op, h1, h2, h3⟩ := h
  exact ⟨L, Vv, U, T, op.hbput f ht, h1, h2.far f (fun c q _ z => by have z : c = b := z; rw [z, ht] at q; unfold rtag at q; omega) (Xt.refl _ _), h3.far f (fun c q _ z => by have z : c = b := z; rw [z, ht] at q; unfold vmT at q; omega) (Xt.refl _ _)⟩
theorem MOF.dr {fuel : Nat} {out : Str} (h : MOF C w ow fuel out) {d : Nat} : MOF C { w with drawn := d } ow fuel out := h.thruN ((Fram.refl none' _).thenDrew)
theorem MOF.df {fuel : Nat} {out : Str} (h : MOF C w ow fuel out) : ∀ b, w.heap.size ≤ b → ow b = 66 := by
  obtain ⟨L, Vv, U, T, op, h1⟩ := h
  exact op.df
theorem MOZ.thruN {u : World} {fuel : Nat} {out : Str} (h : MOZ C w ow fuel out) (f : Fram none' w u) : MOZ C u ow fuel out := by
  obtain ⟨L, Vv, U, T, op, h1, h2, h3⟩ := h
  exact ⟨L, Vv, U, T, op.thruN f, h1, h2.far f (fun _ _ _ q => q) (Xt.refl _ _), h3.far f (fun _ _ _ q => q) (Xt.refl _ _)⟩
theorem MOZ.hbput {u : World} {fuel b : Nat} {out : Str} (h : MOZ C w ow fuel out) (f : Fram (one b) w u) (ht : ow b = 66 := by assumption) : MOZ C u ow fuel out := by
  obtain ⟨L, Vv, U, T, op, h1, h2, h3⟩ := h
  exact ⟨L, Vv, U, T, op.hbput f ht, h1, h2.far f (fun c q _ z => by have z : c = b := z; rw [z, ht] at q; unfold rtag at q; omega) (Xt.refl _ _), h3.far f (fun c q _ z => by have z : c = b := z; rw [z, ht] at q; unfold vmT at q; omega) (Xt.refl _ _)⟩
theorem MOZ.dr {fuel : Nat} {out : Str} (h : MOZ C w ow fuel out) {d : Nat} : MOZ C { w with drawn := d } ow fuel out := h.thruN ((Fram.refl none' _).thenDrew)
theorem MOZ.df {fuel : Nat} {out : Str} (h : MOZ C w ow fuel out) : ∀ b, w.heap.size ≤ b → ow b = 66 := by
  obtain ⟨L, Vv, U, T, op, h1⟩ := h
  exact op.df
theorem wipeA {fuel e : Nat} {out : Str} (h : MOF C w ow fuel out) (he : e ≠ 0) : Ret Tryz.prog 83 [ptr C.E.mb, i64c e] w (fun r w' => r = .tuple #[] ∧ ∃ ow', Xt w ow ow' ∧ Fram (tg ow vtT) w w' ∧ MOZ C w' ow' fuel out) := by
  obtain ⟨L, Vv, U, T, op, ⟨h1, h2⟩, ht, hn⟩ := h
  refine (wipe83 (e := e) ⟨Vv, U, op⟩).mono ?_
  rintro r w' ⟨rfl, ⟨V', U', op'⟩, f⟩
  have tm := op.tm
  refine ⟨rfl, ow, Xt.refl _ _, f.mono (fun b _ z => ?_), _, V', U', T, op', ⟨⟨h1, ?_⟩, e, fun i h1 h2 => ?_, rfl, rfl, he⟩, ht.far f (fun c q _ z => by have z : c = C.E.mb := z; rw [z, tm] at q; unfold rtag at q; omega) (Xt.refl _ _), ?_⟩
  · have z : b = C.E.mb := z
    show vtT (ow b)
    rw [z, op.tm]; left; unfold vmT; omega
  · show (if 11 = 11 then L.A 11 else (0, [])) = _
    rw [if_pos rfl]; exact h2
  · show (if i = 11 then L.A 11 else (0, [])) = _
    rw [if_neg (by omega)]
  · obtain ⟨bb, l, k1, k2, k3, k4, k5⟩ := hn
    exact ⟨bb, l, k1.fram f (fun z => by have z : C.nb = C.E.mb := z; rw [z, tm] at k4; omega), k2.fram f (fun z => by have z : bb = C.E.mb := z; rw [z, tm] at k5; omega), k3, k4, k5⟩
theorem unwT {v : PV} (hR : AMq C w ow s) (hc : s.cur < s.ths.length) (hb : (unwL s.th.frs).isSome = true) : Ret Tryz.prog 204 [ptr C.E.mb, tptr C s.cur, pv v] w (fun r w' => r = .tuple #[vevv 0 0 0 vNil vNil, .bool false] ∧ ∃ ow', Xt w ow ow' ∧ Fram (tg ow vtT) w w' ∧ AMq C w' ow' (athrow v s)) :=
  (unwindA hR hc).mono fun r w' h => by unfold UnR at h; rw [if_pos hb] at h; exact h
theorem unwF {v : PV} (hR : AMq C w ow s) (hc : s.cur < s.ths.length) (hb : (unwL s.th.frs).isSome = false) : Ret Tryz.prog 204 [ptr C.E.mb, tptr C s.cur, pv v] w (fun r w' => r = .tuple #[vevv 2 0 0 v vNil, .bool true] ∧ ∃ ow', Xt w ow ow' ∧ Fram (tg ow vtT) w w' ∧ AMq C w' ow' (s.setT { s.th with frs := [], st := 5 })) :=
  (unwindA hR hc).mono fun r w' h => by unfold UnR at h; rw [if_neg (by rw [hb]; decide)] at h; exact h

theorem np_n {Q : Exit → Act → World → Prop} {a : Act} {w : World} (h : Q .normal a w) : NP Q .normal a w := h
theorem catch203i (a b c d : Nat) (w : World) : CallsD Tryz.prog 203 #[ptr a, ptr b, ptr c, ptr d] .returning w (fun e u' w' => e = .returned (.tuple #[]) ∧ u' = .returning ∧ w' = w) := by
  refine callsD_of_wpS Tryz.func203 rfl fun c₀ cs hu => ?_
  rw [Tryz.ntmps203, show (#[ptr a, ptr b, ptr c, ptr d] : Array Value) = [ptr a, ptr b, ptr c, ptr d].toArray from rfl, fr_ini _ (by simp)]
  refine wpS_seq (wpS_region ?_)
  refine ws_rec1 (v := .nilIface) (cs' := c₀ :: cs) (by decide) (.inr ⟨by simp [recoverD, hu], rfl, rfl⟩) ?_
  refine wpS_of_wp (WC.out ?_)
  refine c_block ?_
  refine c_seq (fun K1 hK1 => ?_)
  refine c_reg ?_ -- region 3 exec.go:84
  refine wl (ro_eqNilN rfl if_20) ?_
  refine wl_nil (x_then (hK1 _ _ ?_))
  clear hK1 K1
  refine wc_condT rfl ?_
  refine c_reg ?_ -- region 4 exec.go:84
  refine wl (ro_assign rfl) ?_
  refine wl_nil (x_blk ?_)
  refine ⟨rfl, .returning, ?_, .tuple #[], results_fr Tryz.results203 rfl, rfl, rfl, rfl⟩
  cases c₀
  simp_all
set_option maxHeartbeats 4000000 in
theorem catch203t {c3 c5 c6 c7 bv : Nat} {v : PV} (hX : Xt w0 ow0 ow) (hF : Fram (tg ow0 vtT) w0 w) (hR : AMq C w ow s) (hc : s.cur < s.ths.length) (h3 : Blk w.heap c3 [ptr C.E.mb] 42) (kh3 : ow c3 = 66) (h5 : Blk w.heap c5 [tptr C s.cur] 266) (kh5 : ow c5 = 66) (h6 : Blk w.heap c6 (vevc 0 0 0 vNil vNil) 211) (kh6 : ow c6 = 66) (hbsc6 : w0.heap.size ≤ c6) (h7 : Blk w.heap c7 [.bool false] 4) (kh7 : ow c7 = 66) (hbsc7 : w0.heap.size ≤ c7) (hv : Blk w.heap bv (pvc v) 335) (khv : ow bv = 66) (h67 : c6 < c7) (hb : (unwL s.th.frs).isSome = true) :
    CallsD Tryz.prog 203 #[ptr c3, ptr c5, ptr c6, ptr c7] (.panicking [{ v := .iface 332 (ptr bv), recovered := false }]) w (fun e u' w' => e = .returned (.tuple #[]) ∧ u' = .panicking [{ v := .iface 332 (ptr bv), recovered := true }] ∧ ∃ ow', Xt w0 ow0 ow' ∧ Fram (tg ow0 vtT) w0 w' ∧ AMq C w' ow' (athrow v s) ∧ Blk w'.heap c6 (vevc 0 0 0 vNil vNil) 211 ∧ Blk w'.heap c7 [.bool false] 4) := by
  have n36 : c3 ≠ c6 := h3.ne_type h6 (by decide)
  have n56 : c5 ≠ c6 := h5.ne_type h6 (by decide)
  have nv6 : bv ≠ c6 := hv.ne_type h6 (by decide)
  have n37 : c3 ≠ c7 := h3.ne_type h7 (by decide)
  have n57 : c5 ≠ c7 := h5.ne_type h7 (by decide)
  have nv7 : bv ≠ c7 := hv.ne_type h7 (by decide)
  refine callsD_of_wpS Tryz.func203 rfl fun c₀ cs hu => ?_
  rw [Tryz.ntmps203, show (#[ptr c3, ptr c5, ptr c6, ptr c7] : Array Value) = [ptr c3, ptr c5, ptr c6, ptr c7].toArray from rfl, fr_ini _ (by simp)]
  refine wpS_seq (wpS_region ?_)
  refine ws_rec1 (v := .iface 332 (ptr bv)) (cs' := { c₀ with mode := .panicking [{ v := .iface 332 (ptr bv), recovered := true }] } :: cs) (by decide) (.inl (by simp [recoverD, hu])) ?_
  refine wpS_of_wp (WC.out ?_)
  refine c_block ?_
  refine c_seq (fun K1 hK1 => ?_)
  refine c_reg ?_ -- region 3 exec.go:84
  refine wl (ro_eqNilI rfl if_20) ?_
  refine wl_nil (x_then (hK1 _ _ ?_))
  clear hK1 K1
  refine wc_condF rfl ?_
  refine c_seq (fun K2 hK2 => ?_)
  refine c_reg ?_ -- region 5 exec.go:84
  refine wl (ro_taY rfl nif_332) ?_
  refine wl (ro_extract rfl rfl) ?_
  refine wl (ro_extract rfl rfl) ?_
  refine wl_nil (x_then (hK2 _ _ ?_))
  clear hK2 K2
  refine wc_condT rfl ?_
  refine c_seq (fun K3 hK3 => ?_)
  refine c_reg ?_ -- region 6 exec.go:84
  refine wl (ro_assign rfl) ?_
  refine wl_nil (x_then (hK3 _ _ ?_))
  clear hK3 K3
  refine c_np ?_
  refine c_piL 11 [(0, false), (1, false), (2, false), (3, false), (4, false), (5, false), (6, true), (7, false), (8, false), (9, false), (10, true)] (fun w' => Blk w'.heap c3 [ptr C.E.mb] 42 ∧ Blk w'.heap c5 [tptr C s.cur] 266 ∧ Blk w'.heap bv (pvc v) 335) mixed (by kernel_rfl) rfl (by kernel_rfl) (po_np) (⟨h3, h5, hv⟩) ?_ -- region 7 exec.go:87
  refine ql_ro rfl (fun w hS => ro_loadB rfl sc_42 (hS.1) rfl) ?_
  refine ql_ro rfl (fun w hS => ro_loadB rfl sc_266 (hS.2.1) rfl) ?_
  refine ql_ro rfl (fun w hS => ro_move rfl) ?_
  refine ql_ro rfl (fun w hS => ro_nilCheck rfl) ?_
  refine ql_ro rfl (fun w hS => ro_fieldAddr (k := 0) rfl fo_335_0) ?_
  refine ql_ro rfl (fun w hS => ro_loadAggB rfl ag_119 (hS.2.2) rfl rfl) ?_
  refine ql_call rfl rfl en_204 (unwT hR.dr hc hb) ?_
  rintro _ u50 ⟨rfl, ow50, x50, f50, r50⟩
  obtain ⟨h3, kh3⟩ := vm_loc x50 f50 h3 kh3
  obtain ⟨h5, kh5⟩ := vm_loc x50 f50 h5 kh5
  obtain ⟨h6, kh6⟩ := vm_loc x50 f50 h6 kh6
  obtain ⟨h7, kh7⟩ := vm_loc x50 f50 h7 kh7
  obtain ⟨hv, khv⟩ := vm_loc x50 f50 hv khv
  have hs50 := hF.size
  replace hF := vm_trans hX hF f50
  replace hX := hX.trans hs50 x50
  replace hR := r50
  refine ⟨⟨h3, h5, hv⟩, ?_⟩
  refine ql_ro rfl (fun w hS => ro_move rfl) ?_
  refine ql_ro rfl (fun w hS => ro_extract rfl rfl) ?_
  refine ql_ro rfl (fun w hS => ro_extract rfl rfl) ?_
  refine ql_putam rfl rfl rfl ((vevc_one _ _ _ _ _)) sz_211 (rfl) h6 ((Nat.le_refl 9)) (rfl) (fun w1 hB1 F ↦ ⟨F.blkO h3 n36, F.blkO h5 n56, F.blkO hv nv6⟩) (fun w1 h6 F1 => ?_)
  replace hF := hF.thenDrew.thenO F1 (by first | exact .inr (by omega) | exact .inl rfl | exact .inl (by assumption) | assumption)
  replace hR := hR.hbput ((Fram.refl (one c6) _).thenDrew.thenO F1 (.inl rfl))
  replace h3 := F1.blkO h3 (by first | omega | exact ow_ne (by assumption) (by assumption) (by omega))
  replace h5 := F1.blkO h5 (by first | omega | exact ow_ne (by assumption) (by assumption) (by omega))
  replace h7 := F1.blkO h7 (by first | omega | exact ow_ne (by assumption) (by assumption) (by omega))
  replace hv := F1.blkO hv (by first | omega | exact ow_ne (by assumption) (by assumption) (by omega))
  refine ql_put rfl rfl rfl rfl sz_4 h7 (by simp) (rfl) (fun w2 h7 F2 => ?_)
  replace hF := hF.thenDrew.thenO F2 (by first | exact .inr (by omega) | exact .inl rfl | exact .inl (by assumption) | assumption)
  replace hR := hR.hbput ((Fram.refl (one c7) _).thenDrew.thenO F2 (.inl rfl))
  replace h3 := F2.blkO h3 (by first | omega | exact ow_ne (by assumption) (by assumption) (by omega))
  replace h5 := F2.blkO h5 (by first | omega | exact ow_ne (by assumption) (by assumption) (by omega))
  replace h6 := F2.blkO h6 (by first | omega | exact ow_ne (by assumption) (by assumption) (by omega))
  replace hv := F2.blkO hv (by first | omega | exact ow_ne (by assumption) (by assumption) (by omega))
  refine np_n ?_
  refine x_blk ?_
  exact ⟨rfl, _, rfl, .tuple #[], results_fr Tryz.results203 rfl, rfl, rfl, _, hX, hF, hR, h6, h7⟩
set_option maxHeartbeats 4000000 in
theorem catch203u {c3 c5 c6 c7 bv : Nat} {v : PV} (hX : Xt w0 ow0 ow) (hF : Fram (tg ow0 vtT) w0 w) (hR : AMq C w ow s) (hc : s.cur < s.ths.length) (h3 : Blk w.heap c3 [ptr C.E.mb] 42) (kh3 : ow c3 = 66) (h5 : Blk w.heap c5 [tptr C s.cur] 266) (kh5 : ow c5 = 66) (h6 : Blk w.heap c6 (vevc 0 0 0 vNil vNil) 211) (kh6 : ow c6 = 66) (hbsc6 : w0.heap.size ≤ c6) (h7 : Blk w.heap c7 [.bool false] 4) (kh7 : ow c7 = 66) (hbsc7 : w0.heap.size ≤ c7) (hv : Blk w.heap bv (pvc v) 335) (khv : ow bv = 66) (h67 : c6 < c7) (hb : (unwL s.th.frs).isSome = false) :
    CallsD Tryz.prog 203 #[ptr c3, ptr c5, ptr c6, ptr c7] (.panicking [{ v := .iface 332 (ptr bv), recovered := false }]) w (fun e u' w' => e = .returned (.tuple #[]) ∧ u' = .panicking [{ v := .iface 332 (ptr bv), recovered := true }] ∧ ∃ ow', Xt w0 ow0 ow' ∧ Fram (tg ow0 vtT) w0 w' ∧ AMq C w' ow' (s.setT { s.th with frs := [], st := 5 }) ∧ Blk w'.heap c6 (vevc 2 0 0 v vNil) 211 ∧ Blk w'.heap c7 [.bool true] 4) := by
  have n36 : c3 ≠ c6 := h3.ne_type h6 (by decide)
  have n56 : c5 ≠ c6 := h5.ne_type h6 (by decide)
  have nv6 : bv ≠ c6 := hv.ne_type h6 (by decide)
  have n37 : c3 ≠ c7 := h3.ne_type h7 (by decide)
  have n57 : c5 ≠ c7 := h5.ne_type h7 (by decide)
  have nv7 : bv ≠ c7 := hv.ne_type h7 (by decide)
  refine callsD_of_wpS Tryz.func203 rfl fun c₀ cs hu => ?_
  rw [Tryz.ntmps203, show (#[ptr c3, ptr c5, ptr c6, ptr c7] : Array Value) = [ptr c3, ptr c5, ptr c6, ptr c7].toArray from rfl, fr_ini _ (by simp)]
  refine wpS_seq (wpS_region ?_)
  refine ws_rec1 (v := .iface 332 (ptr bv)) (cs' := { c₀ with mode := .panicking [{ v := .iface 332 (ptr bv), recovered := true }] } :: cs) (by decide) (.inl (by simp [recoverD, hu])) ?_
  refine wpS_of_wp (WC.out ?_)
  refine c_block ?_
  refine c_seq (fun K1 hK1 => ?_)
  refine c_reg ?_ -- region 3 exec.go:84
  refine wl (ro_eqNilI rfl if_20) ?_
  refine wl_nil (x_then (hK1 _ _ ?_))
  clear hK1 K1
  refine wc_condF rfl ?_
  refine c_seq (fun K2 hK2 => ?_)
  refine c_reg ?_ -- region 5 exec.go:84
  refine wl (ro_taY rfl nif_332) ?_
  refine wl (ro_extract rfl rfl) ?_
  refine wl (ro_extract rfl rfl) ?_
  refine wl_nil (x_then (hK2 _ _ ?_))
  clear hK2 K2
  refine wc_condT rfl ?_
  refine c_seq (fun K3 hK3 => ?_)
  refine c_reg ?_ -- region 6 exec.go:84
  refine wl (ro_assign rfl) ?_
  refine wl_nil (x_then (hK3 _ _ ?_))
  clear hK3 K3
  refine c_np ?_
  refine c_piL 11 [(0, false), (1, false), (2, false), (3, false), (4, false), (5, false), (6, true), (7, false), (8, false), (9, false), (10, true)] (fun w' => Blk w'.heap c3 [ptr C.E.mb] 42 ∧ Blk w'.heap c5 [tptr C s.cur] 266 ∧ Blk w'.heap bv (pvc v) 335) mixed (by kernel_rfl) rfl (by kernel_rfl) (po_np) (⟨h3, h5, hv⟩) ?_ -- region 7 exec.go:87
  refine ql_ro rfl (fun w hS => ro_loadB rfl sc_42 (hS.1) rfl) ?_
  refine ql_ro rfl (fun w hS => ro_loadB rfl sc_266 (hS.2.1) rfl) ?_
  refine ql_ro rfl (fun w hS => ro_move rfl) ?_
  refine ql_ro rfl (fun w hS => ro_nilCheck rfl) ?_
  refine ql_ro rfl (fun w hS => ro_fieldAddr (k := 0) rfl fo_335_0) ?_
  refine ql_ro rfl (fun w hS => ro_loadAggB rfl ag_119 (hS.2.2) rfl rfl) ?_
  refine ql_call rfl rfl en_204 (unwF hR.dr hc hb) ?_
  rintro _ u50 ⟨rfl, ow50, x50, f50, r50⟩
  obtain ⟨h3, kh3⟩ := vm_loc x50 f50 h3 kh3
  obtain ⟨h5, kh5⟩ := vm_loc x50 f50 h5 kh5
  obtain ⟨h6, kh6⟩ := vm_loc x50 f50 h6 kh6
  obtain ⟨h7, kh7⟩ := vm_loc x50 f50 h7 kh7
  obtain ⟨hv, khv⟩ := vm_loc x50 f50 hv khv
  have hs50 := hF.size
  replace hF := vm_trans hX hF f50
  replace hX := hX.trans hs50 x50
  replace hR := r50
  refine ⟨⟨h3, h5, hv⟩, ?_⟩
  refine ql_ro rfl (fun w hS => ro_move rfl) ?_
  refine ql_ro rfl (fun w hS => ro_extract rfl rfl) ?_
  refine ql_ro rfl (fun w hS => ro_extract rfl rfl) ?_
  refine ql_putam rfl rfl rfl ((vevc_one _ _ _ _ _)) sz_211 (rfl) h6 ((Nat.le_refl 9)) (rfl) (fun w1 hB1 F ↦ ⟨F.blkO h3 n36, F.blkO h5 n56, F.blkO hv nv6⟩) (fun w1 h6 F1 => ?_)
  replace hF := hF.thenDrew.thenO F1 (by first | exact .inr (by omega) | exact .inl rfl | exact .inl (by assumption) | assumption)
  replace hR := hR.hbput ((Fram.refl (one c6) _).thenDrew.thenO F1 (.inl rfl))
  replace h3 := F1.blkO h3 (by first | omega | exact ow_ne (by assumption) (by assumption) (by omega))
  replace h5 := F1.blkO h5 (by first | omega | exact ow_ne (by assumption) (by assumption) (by omega))
  replace h7 := F1.blkO h7 (by first | omega | exact ow_ne (by assumption) (by assumption) (by omega))
  replace hv := F1.blkO hv (by first | omega | exact ow_ne (by assumption) (by assumption) (by omega))
  refine ql_put rfl rfl rfl rfl sz_4 h7 (by simp) (rfl) (fun w2 h7 F2 => ?_)
  replace hF := hF.thenDrew.thenO F2 (by first | exact .inr (by omega) | exact .inl rfl | exact .inl (by assumption) | assumption)
  replace hR := hR.hbput ((Fram.refl (one c7) _).thenDrew.thenO F2 (.inl rfl))
  replace h3 := F2.blkO h3 (by first | omega | exact ow_ne (by assumption) (by assumption) (by omega))
  replace h5 := F2.blkO h5 (by first | omega | exact ow_ne (by assumption) (by assumption) (by omega))
  replace h6 := F2.blkO h6 (by first | omega | exact ow_ne (by assumption) (by assumption) (by omega))
  replace hv := F2.blkO hv (by first | omega | exact ow_ne (by assumption) (by assumption) (by omega))
  refine np_n ?_
  refine x_blk ?_
  exact ⟨rfl, _, rfl, .tuple #[], results_fr Tryz.results203 rfl, rfl, rfl, _, hX, hF, hR, h6, h7⟩
set_option maxHeartbeats 4000000 in
theorem catch203s {c3 c5 c6 c7 er : Nat} (hX : Xt w0 ow0 ow) (hF : Fram (tg ow0 vtT) w0 w) (hR : MOF C w ow fuel out) (h3 : Blk w.heap c3 [ptr C.E.mb] 42) (kh3 : ow c3 = 66) (h6 : Blk w.heap c6 (vevc 0 0 0 vNil vNil) 211) (kh6 : ow c6 = 66) (hbsc6 : w0.heap.size ≤ c6) (h7 : Blk w.heap c7 [.bool false] 4) (kh7 : ow c7 = 66) (hbsc7 : w0.heap.size ≤ c7) (h67 : c6 < c7) (her : er ≠ 0) :
    CallsD Tryz.prog 203 #[ptr c3, ptr c5, ptr c6, ptr c7] (.panicking [{ v := .iface 336 (i64c er), recovered := false }]) w (fun en u' w' => en = .returned (.tuple #[]) ∧ u' = .panicking [{ v := .iface 336 (i64c er), recovered := true }] ∧ ∃ ow', Xt w0 ow0 ow' ∧ Fram (tg ow0 vtT) w0 w' ∧ MOZ C w' ow' fuel out ∧ Blk w'.heap c6 (vevc 5 0 er vNil vNil) 211 ∧ Blk w'.heap c7 [.bool true] 4) := by
  have n36 : c3 ≠ c6 := h3.ne_type h6 (by decide)
  have n37 : c3 ≠ c7 := h3.ne_type h7 (by decide)
  refine callsD_of_wpS Tryz.func203 rfl fun c₀ cs hu => ?_
  rw [Tryz.ntmps203, show (#[ptr c3, ptr c5, ptr c6, ptr c7] : Array Value) = [ptr c3, ptr c5, ptr c6, ptr c7].toArray from rfl, fr_ini _ (by simp)]
  refine wpS_seq (wpS_region ?_)
  refine ws_rec1 (v := .iface 336 (i64c er)) (cs' := { c₀ with mode := .panicking [{ v := .iface 336 (i64c er), recovered := true }] } :: cs) (by decide) (.inl (by simp [recoverD, hu])) ?_
  refine wpS_of_wp (WC.out ?_)
  refine c_block ?_
  refine c_seq (fun K1 hK1 => ?_)
  refine c_reg ?_ -- region 3 exec.go:84
  refine wl (ro_eqNilI rfl if_20) ?_
  refine wl_nil (x_then (hK1 _ _ ?_))
  clear hK1 K1
  refine wc_condF rfl ?_
  refine c_seq (fun K2 hK2 => ?_)
  refine c_reg ?_ -- region 5 exec.go:84
  refine wl (ro_taN (z := .pointer none) rfl nif_332 rfl (by kernel_rfl)) ?_
  refine wl (ro_extract rfl rfl) ?_
  refine wl (ro_extract rfl rfl) ?_
  refine wl_nil (x_then (hK2 _ _ ?_))
  clear hK2 K2
  refine wc_condF rfl ?_
  refine c_seq (fun K3 hK3 => ?_)
  refine c_reg ?_ -- region 8 exec.go:84
  refine wl (ro_taY rfl nif_336) ?_
  refine wl (ro_extract rfl rfl) ?_
  refine wl (ro_extract rfl rfl) ?_
  refine wl_nil (x_then (hK3 _ _ ?_))
  clear hK3 K3
  refine wc_condT rfl ?_
  refine c_seq (fun K4 hK4 => ?_)
  refine c_reg ?_ -- region 9 exec.go:84
  refine wl (ro_assign rfl) ?_
  refine wl_nil (x_then (hK4 _ _ ?_))
  clear hK4 K4
  refine forget [(0, _), (2, _), (3, _), (6, _)] ⟨rfl, rfl, rfl, rfl, trivial⟩ (fun e => ?_)
  refine c_seq (fun K5 hK5 => ?_)
  refine c_reg ?_ -- region 10 exec.go:89
  refine wl (ro_loadB rfl sc_42 (h3) rfl) ?_
  refine wl (ro_move rfl) ?_
  refine wl_call rfl en_83 (wipeA (e := er) hR.dr her) ?_
  rintro _ u1 ⟨rfl, ow1, x1, f1, r1⟩
  obtain ⟨h3, kh3⟩ := vm_loc x1 f1 h3 kh3
  obtain ⟨h6, kh6⟩ := vm_loc x1 f1 h6 kh6
  obtain ⟨h7, kh7⟩ := vm_loc x1 f1 h7 kh7
  have hs1 := hF.size
  replace hF := vm_trans hX hF f1
  replace hX := hX.trans hs1 x1
  replace hR := r1
  refine wl_nil (x_then (hK5 _ _ ?_))
  clear hK5 K5
  refine c_reg ?_ -- region 11 exec.go:90
  refine wl (ro_move rfl) ?_
  refine wl (ro_build rfl bld_211_0_2) ?_
  refine wl_puta rfl rfl ((vevc_one 5 0 er vNil vNil)) sz_211 (rfl) h6 ((Nat.le_refl 9)) (rfl) (fun w2 h6 F2 => ?_)
  replace hF := hF.thenDrew.thenO F2 (by first | exact .inr (by omega) | exact .inl rfl | exact .inl (by assumption) | assumption)
  replace hR := hR.hbput ((Fram.refl (one c6) _).thenDrew.thenO F2 (.inl rfl))
  replace h3 := F2.blkO h3 (by first | omega | exact ow_ne (by assumption) (by assumption) (by omega))
  replace h7 := F2.blkO h7 (by first | omega | exact ow_ne (by assumption) (by assumption) (by omega))
  refine wl_put rfl rfl rfl sz_4 h7 (by simp) (rfl) (fun w3 h7 F3 => ?_)
  replace hF := hF.thenDrew.thenO F3 (by first | exact .inr (by omega) | exact .inl rfl | exact .inl (by assumption) | assumption)
  replace hR := hR.hbput ((Fram.refl (one c7) _).thenDrew.thenO F3 (.inl rfl))
  replace h3 := F3.blkO h3 (by first | omega | exact ow_ne (by assumption) (by assumption) (by omega))
  replace h6 := F3.blkO h6 (by first | omega | exact ow_ne (by assumption) (by assumption) (by omega))
  refine wl_nil (x_blk ?_)
  exact ⟨rfl, _, rfl, .tuple #[], results_fr Tryz.results203 rfl, rfl, rfl, _, hX, hF, hR, h6, h7⟩
/-- run's answer. -/
def RnR (C : VC) (b : AS) (n0 : Nat) (c : Nat × List Nat × Nat × Bool) (w : World) (ow : Nat → Nat) (r : Value) (w' : World) : Prop := ∃ n z ow' s1, n < n0 ∧ LI C b n z ∧ Xt w ow ow' ∧ Fram (tg ow vtT) w w' ∧ kN s1 = c ∧
  ((AMq C w' ow' s1 ∧ ((∃ v u, r = .tuple #[vevv 1 0 0 v u, .bool true] ∧ HS s1 ∧ (wfV v = true ∧ W64 v.N) ∧ aback true v s1 = z) ∨ (∃ k v, r = .tuple #[vevv 4 k 0 v vNil, .bool true] ∧ rsm (Psf C.F) k v s1 = z ∧ k < s1.ths.length ∧ ((thA s1.ths k).st = 1 ∧ (thA s1.ths k).frs = [] ∨ (thA s1.ths k).st = 2) ∧ VV s1.clos.length s1.ths.length s1.tabs.length v) ∨ (∃ v, r = .tuple #[vevv 3 0 0 v vNil, .bool true] ∧ s1.cur ≠ 0 ∧ HS s1 ∧ yld v s1 = z) ∨ (∃ v, r = .tuple #[vevv 2 0 0 v vNil, .bool true] ∧ HS s1 ∧ (wfV v = true ∧ W64 v.N) ∧ aback false v s1 = z) ∨ (r = .tuple #[vevv 0 0 0 vNil vNil, .bool false] ∧ s1 = z))) ∨
   (∃ e, r = .tuple #[vevv 5 0 e vNil vNil, .bool true] ∧ ATr e s1 z ∧ MOZ C w' ow' s1.fuel s1.out))
theorem athrow_k {v : PV} {s : AS} (h : (unwL s.th.frs).isSome = true) : kN (athrow v s) = kN s := by
  unfold athrow
  cases hu : unwL s.th.frs with
  | none => rw [hu] at h; cases h
  | some r => rfl
theorem athrow_n {v : PV} {s : AS} (h : (unwL s.th.frs).isSome = false) : athrow v s = aback false v (s.setT { s.th with frs := [], st := 5 }) := by
  unfold athrow
  cases hu : unwL s.th.frs with
  | none => rfl
  | some r => rw [hu] at h; cases h
theorem rv_b {P : Program} {n : Nat} {e : Nat → Option Value} {w : World} {fn : Func} {ds : List Deferred} {a b ta tb k ba bb : Nat} {cs : List Value} {v : Value} {t1 t2 : TypeId} (hrs : fn.results = #[.cell a ta, .cell b tb]) (ha : evO n e (.tmp a) = some (ptr ba)) (hb : evO n e (.tmp b) = some (ptr bb)) (h1 : aggB P ta k = true) (h2 : scalB P tb = true) (hA : Blk w.heap ba cs t1) (hl : cs.length = k) (hB : Blk w.heap bb [v] t2) :
    (results fn (Fr n e ds).tmps).run P w = .ok (.tuple #[.agg cs.toArray, v]) w := by
  have g1 := getD_of_evO (ds := ds) ha
  have g2 := getD_of_evO (ds := ds) hb
  have l1 := load_agg h1 hA hl
  have l2 := load_scal h2 hB
  simp at g1 g2
  simp [results, hrs, g1, g2, ptr, asAddr, l1, l2]
set_option maxHeartbeats 4000000 in
theorem runA {c : Nat × List Nat × Nat × Bool} (hL : LI C b n s) (hb : b.done = true) (hd : s.done = false) (hcu : s.cur = cu) (hk : kN s = c) (hR : AMq C w ow s) : Ret Tryz.prog 152 [ptr C.E.mb, i64c cu, tptr C cu] w (RnR C b n c w ow) := by
  have hX : Xt w ow ow := Xt.refl _ _
  have hF : Fram (tg ow vtT) w w := Fram.refl _ _
  have hct := (hL.sh.tr hd).lt
  refine retd_of Tryz.func152 rfl Tryz.ntmps152 rfl ?_
  refine c_seq (fun K1 hK1 => ?_)
  refine c_reg ?_ -- region 0 exec.go:82
  refine wl_box rfl rfl (fun b3 w1 hbb3 h3 F1 => ?_)
  have hbsb3 := Nat.le_trans hF.size hbb3
  have kh3 := hR.df b3 hbb3
  replace hF := hF.thenDrew.thenN F1
  replace hR := hR.thruN ((Fram.refl none' _).thenDrew.thenN F1)
  refine wl_box rfl rfl (fun b5 w2 hbb5 h5 F2 => ?_)
  have hbsb5 := Nat.le_trans hF.size hbb5
  have hneb3b5 : b3 < b5 := Nat.lt_of_lt_of_le h3.lt hbb5
  have kh5 := hR.df b5 hbb5
  replace hF := hF.thenDrew.thenN F2
  replace hR := hR.thruN ((Fram.refl none' _).thenDrew.thenN F2)
  replace h3 := F2.blkN h3
  refine wl_new (ze_211) (fun b6 w3 hbb6 h6 F3 => ?_)
  have hbsb6 := Nat.le_trans hF.size hbb6
  have hneb3b6 : b3 < b6 := Nat.lt_of_lt_of_le h3.lt hbb6
  have hneb5b6 : b5 < b6 := Nat.lt_of_lt_of_le h5.lt hbb6
  have kh6 := hR.df b6 hbb6
  replace hF := hF.thenDrew.thenN F3
  replace hR := hR.thruN ((Fram.refl none' _).thenDrew.thenN F3)
  replace h3 := F3.blkN h3
  replace h5 := F3.blkN h5
  refine wl_new (ze_4) (fun b7 w4 hbb7 h7 F4 => ?_)
  have hbsb7 := Nat.le_trans hF.size hbb7
  have hneb3b7 : b3 < b7 := Nat.lt_of_lt_of_le h3.lt hbb7
  have hneb5b7 : b5 < b7 := Nat.lt_of_lt_of_le h5.lt hbb7
  have hneb6b7 : b6 < b7 := Nat.lt_of_lt_of_le h6.lt hbb7
  have kh7 := hR.df b7 hbb7
  replace hF := hF.thenDrew.thenN F4
  replace hR := hR.thruN ((Fram.refl none' _).thenDrew.thenN F4)
  replace h3 := F4.blkN h3
  replace h5 := F4.blkN h5
  replace h6 := F4.blkN h6
  refine wl_nil (x_then (hK1 _ _ ?_))
  clear hK1 K1
  refine forget [(1, _), (3, _), (5, _), (6, _), (7, _)] ⟨rfl, rfl, rfl, rfl, rfl, trivial⟩ (fun e => ?_)
  refine c_seq (fun K2 hK2 => ?_)
  refine c_reg ?_ -- region 1 exec.go:83
  refine wl (ro_makeFunc (caps := [.tmp 3, .tmp 5, .tmp 6, .tmp 7]) rfl) ?_
  refine wl_defer (f := 203) (cs := [ptr b3, ptr b5, ptr b6, ptr b7]) rfl ?_
  obtain ⟨dfr, hdfr⟩ : ∃ d : Deferred, d = { target := .fn (.func 203) [ptr b3, ptr b5, ptr b6, ptr b7].toArray, args := #[] } := ⟨_, rfl⟩
  rw [← hdfr]
  have hinv : ∀ w' : World, (invoke (.fn (.func 203) [ptr b3, ptr b5, ptr b6, ptr b7].toArray) #[]).run Tryz.prog w' = .ok (.enter 203 #[ptr b3, ptr b5, ptr b6, ptr b7]) w' := fun w' => by
    have := en_203 #[ptr b3, ptr b5, ptr b6, ptr b7] w'
    simp [invoke, this]
  refine wl_nil (x_then (hK2 _ _ ?_))
  clear hK2 K2
  refine forget [(1, _), (3, _), (5, _), (6, _), (7, _)] ⟨rfl, rfl, rfl, rfl, rfl, trivial⟩ (fun e => ?_)
  refine c_seq (fun K3 hK3 => ?_)
  refine c_reg ?_ -- region 2 exec.go:95
  refine wl (ro_loadB rfl sc_42 (h3) rfl) ?_
  refine wl (ro_move rfl) ?_
  refine wl (ro_loadB rfl sc_266 (h5) rfl) ?_
  refine wl_callP rfl en_205 (loopA hL hb hd hcu hk hR) (fun pv w9 hE => ?_) ?_
  · obtain ⟨n9, z9, hn9, hL9, ow9, s9, x9, f9, q9, k9, hE⟩ := hE
    have hh9 : hs s9 = 3 := congrArg Prod.snd k9
    have k9 : kN s9 = c := congrArg Prod.fst k9
    have hcu9 : s9.cur = cu := by have := congrArg Prod.fst (k9.trans hk.symm); exact this.trans hcu
    have hd9 : s9.done = false := by have := congrArg (fun q => q.2.2.2) (k9.trans hk.symm); exact this.trans hd
    obtain ⟨h3, kh3⟩ := vm_loc' x9 f9 h3 kh3
    obtain ⟨h5, kh5⟩ := vm_loc' x9 f9 h5 kh5
    obtain ⟨h6, kh6⟩ := vm_loc' x9 f9 h6 kh6
    obtain ⟨h7, kh7⟩ := vm_loc' x9 f9 h7 kh7
    have hF9 := vm_trans' hX hF f9
    have hX9 := hX.trans hF.size x9
    show Leaves _ _ _ _ [dfr] _ _
    rw [hdfr]
    refine leaves_cons (f := 203) (args := #[ptr b3, ptr b5, ptr b6, ptr b7]) (by simp) (hinv _) ?_
    rcases hE with ⟨v, bv, rfl, hbv, kbv, hct9, hvw9, hz⟩ | ⟨e, rfl, hz⟩
    · rw [← hcu9] at h5
      by_cases hu : (unwL s9.th.frs).isSome = true
      · refine (catch203t hX9 hF9 q9 hct9 h3 kh3 h5 kh5 h6 kh6 hbsb6 h7 kh7 hbsb7 hbv kbv hneb6b7 hu).mono ?_
        rintro e u' w' ⟨rfl, rfl, ow5, x5, f5, q5, g6, g7⟩
        exact ⟨_, rv_b Tryz.results152 rfl rfl ag_211 sc_4 g6 rfl g7, _, rfl, n9, z9, ow5, _, hn9, hL9, x5, f5, (athrow_k hu).trans k9, .inl ⟨q5, .inr (.inr (.inr (.inr ⟨rfl, hz⟩)))⟩⟩
      · have hu : (unwL s9.th.frs).isSome = false := by simpa using hu
        refine (catch203u hX9 hF9 q9 hct9 h3 kh3 h5 kh5 h6 kh6 hbsb6 h7 kh7 hbsb7 hbv kbv hneb6b7 hu).mono ?_
        rintro e u' w' ⟨rfl, rfl, ow5, x5, f5, q5, g6, g7⟩
        exact ⟨_, rv_b Tryz.results152 rfl rfl ag_211 sc_4 g6 rfl g7, _, rfl, n9, z9, ow5, s9.setT { s9.th with frs := [], st := 5 }, hn9, hL9, x5, f5, k9, .inl ⟨q5, .inr (.inr (.inr (.inl ⟨v, rfl, HS.of (hL.sh.tr hd) (k9.trans hk.symm) (hs_setT.trans hh9), hvw9, (athrow_n hu).symm.trans hz⟩)))⟩⟩
    · refine (catch203s (er := e) hX9 hF9 q9.mf h3 kh3 h6 kh6 hbsb6 h7 kh7 hbsb7 hneb6b7 hz.2.2).mono ?_
      rintro en u' w' ⟨rfl, rfl, ow5, x5, f5, q5, g6, g7⟩
      exact ⟨_, rv_b Tryz.results152 rfl rfl ag_211 sc_4 g6 rfl g7, _, rfl, n9, z9, ow5, _, hn9, hL9, x5, f5, k9, .inr ⟨e, rfl, hz, q5⟩⟩
  rintro r9 w9 ⟨n9, z9, ow9, s9, hn9, hL9, x9, f9, q9, k9, hE⟩
  obtain ⟨k0, t0, v0, u0, rfl⟩ : ∃ k t v u, r9 = vevv k t 0 v u := by rcases hE with ⟨v, u, h, -⟩ | ⟨k, v, h, -⟩ | ⟨v, h, -⟩ <;> exact ⟨_, _, _, _, h⟩
  have x50 := x9
  have f50 := f9
  obtain ⟨h3, kh3⟩ := vm_loc x50 f50 h3 kh3
  obtain ⟨h5, kh5⟩ := vm_loc x50 f50 h5 kh5
  obtain ⟨h6, kh6⟩ := vm_loc x50 f50 h6 kh6
  obtain ⟨h7, kh7⟩ := vm_loc x50 f50 h7 kh7
  have hs50 := hF.size
  replace hF := vm_trans hX hF f50
  replace hX := hX.trans hs50 x50
  have hR := q9
  refine wl_puta rfl rfl ((vevc_one _ _ _ _ _)) sz_211 (rfl) h6 ((Nat.le_refl 9)) (rfl) (fun w5 h6 F5 => ?_)
  replace hF := hF.thenDrew.thenO F5 (by first | exact .inr (by omega) | exact .inl rfl | exact .inl (by assumption) | assumption)
  replace h3 := F5.blkO h3 (by first | omega | exact ow_ne (by assumption) (by assumption) (by omega))
  replace h5 := F5.blkO h5 (by first | omega | exact ow_ne (by assumption) (by assumption) (by omega))
  replace h7 := F5.blkO h7 (by first | omega | exact ow_ne (by assumption) (by assumption) (by omega))
  replace hR := hR.hbput ((Fram.refl (one b6) _).thenDrew.thenO F5 (.inl rfl))
  refine wl_nil (x_then (hK3 _ _ ?_))
  clear hK3 K3
  refine forget [(6, _), (7, _)] ⟨rfl, rfl, trivial⟩ (fun e => ?_)
  refine c_seq (fun K4 hK4 => ?_)
  refine c_reg ?_ -- region 3 exec.go:96
  refine wl (ro_loadAggB rfl ag_211 (h6) rfl rfl) ?_
  refine wl_puta rfl rfl ((vevc_one _ _ _ _ _)) sz_211 (rfl) h6 ((Nat.le_refl 9)) (rfl) (fun w6 h6 F6 => ?_)
  replace hF := hF.thenDrew.thenO F6 (by first | exact .inr (by omega) | exact .inl rfl | exact .inl (by assumption) | assumption)
  replace h3 := F6.blkO h3 (by first | omega | exact ow_ne (by assumption) (by assumption) (by omega))
  replace h5 := F6.blkO h5 (by first | omega | exact ow_ne (by assumption) (by assumption) (by omega))
  replace h7 := F6.blkO h7 (by first | omega | exact ow_ne (by assumption) (by assumption) (by omega))
  replace hR := hR.hbput ((Fram.refl (one b6) _).thenDrew.thenO F6 (.inl rfl))
  refine wl_put rfl rfl rfl sz_4 h7 (by simp) (rfl) (fun w7 h7 F7 => ?_)
  replace hF := hF.thenDrew.thenO F7 (by first | exact .inr (by omega) | exact .inl rfl | exact .inl (by assumption) | assumption)
  replace h3 := F7.blkO h3 (by first | omega | exact ow_ne (by assumption) (by assumption) (by omega))
  replace h5 := F7.blkO h5 (by first | omega | exact ow_ne (by assumption) (by assumption) (by omega))
  replace h6 := F7.blkO h6 (by first | omega | exact ow_ne (by assumption) (by assumption) (by omega))
  replace hR := hR.hbput ((Fram.refl (one b7) _).thenDrew.thenO F7 (.inl rfl))
  refine wl_nil (x_then (hK4 _ _ ?_))
  clear hK4 K4
  refine c_ret ?_
  show Leaves _ _ _ _ [dfr] _ _
  rw [hdfr]
  refine leaves_cons (f := 203) (args := #[ptr b3, ptr b5, ptr b6, ptr b7]) (by simp) (hinv _) ?_
  refine (catch203i _ _ _ _ _).mono ?_
  rintro e u' w' ⟨rfl, rfl, rfl⟩
  refine ⟨_, rv_b Tryz.results152 rfl rfl ag_211 sc_4 h6 rfl h7, _, rfl, n9, z9, ow9, s9, hn9, hL9, hX, hF, k9, .inl ⟨hR, ?_⟩⟩
  rcases hE with ⟨v, u, h, hz⟩ | ⟨k, v, h, hz⟩ | ⟨v, h, hz⟩
  · exact .inl ⟨v, u, by rw [← h]; rfl, hz⟩
  · exact .inr (.inl ⟨k, v, by rw [← h]; rfl, hz⟩)
  · exact .inr (.inr (.inl ⟨v, by rw [← h]; rfl, hz⟩))
end
end Go.Proofs.Qxb6500568aGreatDoor
