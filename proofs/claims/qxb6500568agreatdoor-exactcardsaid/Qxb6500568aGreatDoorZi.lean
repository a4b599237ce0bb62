import Derived.Test.Qxb6500568aGreatDoorZh
import Derived.Test.Qxb6500568aGreatDoorDa
/- The compiler: the pool of constants. -/
namespace Go.Proofs.Qxb6500568aGreatDoor
open Ieee
set_option linter.unusedVariables false
set_option linter.unusedSimpArgs false
set_option linter.unusedSectionVars false

theorem posP_snoc {α : Type} {p : α → Bool} {x : α} : ∀ {l : List α}, posP p (l ++ [x]) = match posP p l with | some k => some k | none => if p x = true then some l.length else none
  | [] => by simp [posP]
  | y :: l => by
    rw [List.cons_append]
    unfold posP
    by_cases h : p y = true
    · rw [if_pos h, if_pos h]
    · rw [if_neg h, if_neg h, posP_snoc]
      cases posP p l with
      | some k => rfl
      | none => by_cases hx : p x = true <;> simp [hx]
theorem numF_num {ks : List PV} {b : Nat} (h : numF ks b = none) : numF (ks ++ [vNum b]) = fup (numF ks) b ks.length := by
  funext x
  unfold numF fup
  rw [posP_snoc]
  by_cases e : x = b
  · subst e
    unfold numF at h
    rw [h, if_pos rfl]
    simp only
    rw [if_pos (eqPV_iff.2 rfl)]
  · rw [if_neg e]
    show _ = posP (eqPV (vNum x)) ks
    cases posP (eqPV (vNum x)) ks with
    | some k => rfl
    | none => simp only; rw [if_neg (fun q => by have := eqPV_iff.1 q; exact e (by injection this))]
theorem strF_str {ks : List PV} {b : Str} (h : strF ks b = none) : strF (ks ++ [vStr b]) = fup (strF ks) b ks.length := by
  funext x
  unfold strF fup
  rw [posP_snoc]
  by_cases e : x = b
  · subst e
    unfold strF at h
    rw [h, if_pos rfl]
    simp only
    rw [if_pos (eqPV_iff.2 rfl)]
  · rw [if_neg e]
    show _ = posP (eqPV (vStr x)) ks
    cases posP (eqPV (vStr x)) ks with
    | some k => rfl
    | none => simp only; rw [if_neg (fun q => by have := eqPV_iff.1 q; exact e (by injection this))]
theorem numF_str {ks : List PV} {b : Str} : numF (ks ++ [vStr b]) = numF ks := by
  funext x
  unfold numF
  rw [posP_snoc]
  cases posP (eqPV (vNum x)) ks with
  | some k => rfl
  | none => simp only; rw [if_neg]; intro q; have := eqPV_iff.1 q; exact absurd (congrArg PV.T this) (show ¬ (2 : Nat) = 3 by decide)
theorem strF_num {ks : List PV} {b : Nat} : strF (ks ++ [vNum b]) = strF ks := by
  funext x
  unfold strF
  rw [posP_snoc]
  cases posP (eqPV (vStr x)) ks with
  | some k => rfl
  | none => simp only; rw [if_neg]; intro q; have := eqPV_iff.1 q; exact absurd (congrArg PV.T this) (show ¬ (3 : Nat) = 2 by decide)

section
variable {E : ZEnv} {w w1 u1 u2 : World} {ow : Nat → Nat} {O : List Nat} {S : Fns} {f : ZAct} {q A : List ZAct} {R : List ZRow} {z : ZSl}
def addK (j : Nat) (v : PV) (S : Fns) : Fns := S.modify j fun g => { g with ks := g.ks ++ [v] }
theorem addK_at {j : Nat} {v : PV} (hl : j < S.length) : fsAt (addK j v S) j = { fsAt S j with ks := (fsAt S j).ks ++ [v] } := by unfold addK; rw [fsAt_mod hl, if_pos rfl]
theorem addK_ne {j k : Nat} {v : PV} (hl : j < S.length) (h : k ≠ j) : fsAt (addK j v S) k = fsAt S k := by unfold addK; rw [fsAt_mod hl, if_neg h]
theorem CM.ksS (h : CM E w ow O S (f :: q)) (op : ZOp E w ow O S (f :: q) f R z) (hl : f.j < S.length) {v : PV} {va : Option Addr} {vc tm : Nat} (htm : tm = 320 + f.j ∨ tm = 340 + f.j) (hF : Fram (fun b => ow b = tm) w w1) (hon : Own u1.heap (.slice va ((fsAt S f.j).ks.length + 1) vc) 119 3 ((fsAt S f.j).ks.length + 1) (rws pvc (fsAt S f.j).ks ++ pvc v)) (G1 : Fram (own1 (.slice z.ka (fsAt S f.j).ks.length z.kc)) w1 u1) (hnb : nob (.slice z.ka (fsAt S f.j).ks.length z.kc) (.slice va ((fsAt S f.j).ks.length + 1) vc) w1)
    (fr : Fram (one E.gb) u1 u2) (hB : Blk u2.heap E.gb ((rws fnc R).set (f.j * 11 + 6) (.slice va ((fsAt S f.j).ks.length + 1) vc)) 199) (hn : MF u64c u16c u2.heap z.bn (numF ((fsAt S f.j).ks ++ [v]))) (hs : MF Go.Proofs.Qxb6500568aGreatDoor.S u16c u2.heap z.bs (strF ((fsAt S f.j).ks ++ [v]))) : ZP E w ow O (addK f.j v S) (f :: q) u2 := by
  have hj := op.j
  have hta := h.ta
  have hgl := h.gl
  have hw1 := hF.size
  have hu1 := G1.size
  have hu2 := fr.size
  have x1 : Xt w ow (cut66 u2 (nw ow w1.heap.size (240 + f.j))) := fun c hc => by rw [cut66_xt _ _ c (by omega)]; exact nw_old (by omega)
  have x2 : OwT u2 (cut66 u2 (nw ow w1.heap.size (240 + f.j))) (240 + f.j) (.slice va ((fsAt S f.j).ks.length + 1) vc) 119 3 ((fsAt S f.j).ks.length + 1) (rws pvc ((fsAt S f.j).ks ++ [v])) := by
    rw [rws_app, rws_one]
    have h1 := (op.ks.far hF (fun b y _ z => by omega) (Xt.refl _ _)).grow hon hnb hu1
    exact (h1.far fr (fun c y _ z => by have z : c = E.gb := z; rw [z, nw_old (by omega), hta] at y; omega) (Xt.refl _ _)).cut
  have x3 : Fram (fun b => b = E.gb ∨ ow b = 240 + f.j ∨ ow b = tm) w u2 := ((hF.mono (fun b _ y => .inr (.inr y))).trans' G1 (fun c hc y => .inr (.inl (op.ks.t c y)))).trans' fr (fun c _ y => .inl y)
  have off : ∀ {tag : Nat}, tag ≠ 191 → tag ≠ 240 + f.j → tag ≠ tm → ∀ b, ow b = tag → b < w.heap.size → ¬ (b = E.gb ∨ ow b = 240 + f.j ∨ ow b = tm) := fun {tag} k1 k2 k3 b y _ z => by
    rcases z with z | z | z
    · rw [z, hta] at y; exact k1 y.symm
    · exact k2 (by rw [← y, z])
    · exact k3 (by rw [← y, z])
  have hfr : Fram (frF E ow f.j) w u2 := x3.mono (fun b _ y => by
    rcases y with y | y | y
    · exact .inl y
    · exact .inr (by rw [y]; unfold fnT; omega)
    · exact .inr (by rw [y]; unfold fnT; omega))
  obtain ⟨rows, p1, p2⟩ := op.lps
  have ea := addK_at (v := v) hl
  refine ⟨_, x1, h.frC hj hfr, h.head hfr x1 (cut66_df _ _) op rfl (r' := mkR E (addK f.j v S) f { z with ka := va, kc := vc }) (op.set (o := 6) hB (by decide) ?_) ⟨op.loc.far x3 (off (by omega) (by omega) (by omega)) x1, ?_, ?_, op.code.far x3 (off (by omega) (by omega) (by omega)) x1, rows, p1.far x3 (off (by omega) (by omega) (by omega)) x1, p2.far x3 (fun b y l z => ?_) x1⟩ ⟨rfl, rfl, rfl, rfl, rfl, rfl, ⟨_, rfl, ?_, by rw [x1 _ op.nums.1.lt]; exact op.nums.2⟩, ⟨_, rfl, ?_, by rw [x1 _ op.strs.1.lt]; exact op.strs.2⟩⟩ (fun k hk => addK_ne hl hk)⟩
  · unfold mkR fnc
    rw [ea]
    simp
  · have := op.ups.far x3 (off (by omega) (by omega) (by omega)) x1
    show OwT _ _ _ (.slice z.ua (fsAt (addK f.j v S) f.j).ups.length z.uc) _ _ (fsAt (addK f.j v S) f.j).ups.length (rws upc (fsAt (addK f.j v S) f.j).ups)
    rw [ea]; exact this
  · show OwT _ _ _ (.slice va (fsAt (addK f.j v S) f.j).ks.length vc) _ _ (fsAt (addK f.j v S) f.j).ks.length (rws pvc (fsAt (addK f.j v S) f.j).ks)
    rw [ea]
    simp only [List.length_append, List.length_cons, List.length_nil, Nat.zero_add]
    exact x2
  · rcases z with z | z | z
    · rw [z, hta] at y; omega
    · omega
    · omega
  · show MF _ _ _ _ (numF (fsAt (addK f.j v S) f.j).ks)
    rw [ea]; exact hn
  · show MF _ _ _ _ (strF (fsAt (addK f.j v S) f.j).ks)
    rw [ea]; exact hs

set_option maxHeartbeats 4000000 in
theorem number228 (hR : CM E w ow O S (f :: q)) {x : Nat} (hl : f.j < S.length) (hk : (fsAt S f.j).ks.length ≤ 60000) :
    Ret Tryz.prog 228 [fptr E f.j, u64c x] w (fun r w' => r = u16c (conF f.j (vNum x) S).1 ∧ ZP E w ow O (conF f.j (vNum x) S).2 (f :: q) w') := by
  obtain ⟨R_, z_, op⟩ := hR.open (f := f) (by simp)
  have hG := op.B
  have hta := hR.ta
  have hj := op.j
  have hob : ∀ c, own1 (.slice z_.ka (fsAt S f.j).ks.length z_.kc) c → c ≠ E.gb := fun c y e => by have := op.ks.t _ y; rw [e, hta] at this; omega
  have hot : ∀ c, own1 (.slice z_.ka (fsAt S f.j).ks.length z_.kc) c → ow c = 240 + f.j := fun c y => op.ks.t _ y
  have hbn : z_.bn ≠ E.gb := fun e => by have := op.nums.2; rw [e, hta] at this; omega
  have hbs : z_.bs ≠ E.gb := fun e => by have := op.strs.2; rw [e, hta] at this; omega
  have hbb : z_.bs ≠ z_.bn := fun e => by have h1 := op.strs.2; have h2 := op.nums.2; rw [e] at h1; omega
  have h2n := op.nums.2
  have h2s := op.strs.2
  refine ret_of Tryz.func228 rfl Tryz.ntmps228 rfl ?_
  refine c_seq (fun K1 hK1 => ?_)
  refine c_reg ?_ -- region 0 fn.go:165
  refine wl (ro_assign rfl) ?_
  refine wl_nil (x_then (hK1 _ _ ?_))
  clear hK1 K1
  refine forget [(0, _), (1, _)] ⟨rfl, rfl, trivial⟩ (fun e => ?_)
  refine c_seq (fun K2 hK2 => ?_)
  refine c_reg ?_ -- region 1 fn.go:166
  refine wl (ro_move rfl) ?_
  refine wl (ro_nilCheck rfl) ?_
  refine wl (ro_fieldAddr (k := 7) rfl fo_199_7) ?_
  refine wl (ro_loadB rfl sc_194 hG (op.row 7 (by decide))) ?_
  refine wl (ro_move rfl) ?_
  refine wl (ro_mfLook (et := 201) (z := .int .u16 0) (vv := u16c) (f := numF (fsAt S f.j).ks) (a := x) keyU248 rfl rfl (by kernel_rfl) (by kernel_rfl) op.nums.1) ?_
  refine wl (ro_move rfl) ?_
  refine wl (ro_extract rfl rfl) ?_
  refine wl (ro_extract rfl rfl) ?_
  refine wl (ro_assign rfl) ?_
  refine wl (ro_assign rfl) ?_
  refine wl_nil (x_then (hK2 _ _ ?_))
  clear hK2 K2
  refine c_seq (fun K3 hK3 => ?_)
  refine c_seq (fun K4 hK4 => ?_)
  refine c_reg ?_ -- region 2 fn.go:167
  refine wl (ro_move rfl) ?_
  refine wl (ro_not rfl) ?_
  refine wl_nil (x_then (hK4 _ _ ?_))
  clear hK4 K4
  refine wc_cond rfl (fun hc17 => ?_) (fun hc17 => ?_)
  · try simp only [decide_eq_true_eq, decide_eq_false_iff_not, Bool.not_eq_true', Bool.not_eq_false', Bool.not_eq_eq_eq_not, Bool.not_true, Bool.not_false, beq_iff_eq, bne_iff_ne, ne_eq, beq_eq_false_iff_ne, bne_eq_false_iff_eq, gt_iff_lt, ge_iff_le, Int.not_lt, Int.not_le] at hc17
    have hnk : numF (fsAt S f.j).ks x = none := by simpa using hc17
    have hcon : conF f.j (vNum x) S = ((fsAt S f.j).ks.length, addK f.j (vNum x) S) := by
      unfold conF
      unfold numF at hnk
      rw [hnk]; rfl
    refine c_seq (fun K5 hK5 => ?_)
    refine c_reg ?_ -- region 3 fn.go:168
    refine wl (ro_move rfl) ?_
    refine wl (ro_nilCheck rfl) ?_
    refine wl (ro_fieldAddr (k := 6) rfl fo_199_6) ?_
    refine wl (ro_loadB rfl sc_83 hG (op.row 6 (by decide))) ?_
    refine wl (ro_lenL rfl se_83) ?_
    refine wl (ro_conv rfl sc_3 in_201 (Go.IntWalk.u16_in _ (by omega))) ?_
    refine wl (ro_assign rfl) ?_
    refine wl_nil (x_then (hK5 _ _ ?_))
    clear hK5 K5
    refine forget [(0, _), (1, _), (5, _)] ⟨rfl, rfl, rfl, trivial⟩ (fun e => ?_)
    refine c_seq (fun K6 hK6 => ?_)
    refine c_reg ?_ -- region 4 fn.go:169
    refine wl (ro_move rfl) ?_
    refine wl (ro_nilCheck rfl) ?_
    refine wl (ro_fieldAddr (k := 7) rfl fo_199_7) ?_
    refine wl (ro_loadB rfl sc_194 hG (op.row 7 (by decide))) ?_
    refine wl (ro_move rfl) ?_
    refine wl (ro_move rfl) ?_
    refine wl_mfUp (et := 201) (vv := u16c) (p := (fsAt S f.j).ks.length) (a := x) keyU248 rfl rfl rfl (by kernel_rfl) op.nums.1 ?_
    intro u1 hmf F1
    replace hG := F1.blkO hG (fun e => hbn e.symm)
    have hF1 : Fram (fun b => ow b = 320 + f.j) w u1 := F1.mono (fun b _ e => by have e : b = z_.bn := e; rw [e]; exact op.nums.2)
    have hms := op.strs.1.framO F1 hbb
    have hko := op.ks.o.fram F1 (fun b y e => by have e : b = z_.bn := e; have := op.ks.t b y; rw [e] at this; omega)
    refine wl_nil (x_then (hK6 _ _ ?_))
    clear hK6 K6
    refine c_reg ?_ -- region 5 fn.go:170
    refine wl (ro_move rfl) ?_
    refine wl (ro_move rfl) ?_
    refine wl (ro_nilCheck rfl) ?_
    refine wl (ro_fieldAddr (k := 6) rfl fo_199_6) ?_
    refine wl (ro_loadB rfl sc_83 hG (op.row 6 (by decide))) ?_
    refine wl (ro_move rfl) ?_
    refine wl (ro_build rfl bld_119_0_1) ?_
    refine wl_bsapp (t := 83) (et := 119) (k := 3) (m := (fsAt S f.j).ks.length) (cs := pvc (vNum x)) rfl rfl rfl rfl se_83 zx_119 by_119 rfl rfl rfl (pvc_one _) hko (by omega) (by omega) ?_
    intro v' u2 hon G1 hnb
    obtain ⟨va, vc, rfl⟩ := hon.form
    replace hG := G1.blkF hG (fun y => hob _ y rfl)
    replace hmf := hmf.fram G1 (fun y => by have := hot _ y; omega)
    replace hms := hms.fram G1 (fun y => by have := hot _ y; omega)
    skip
    refine wl (ro_nilCheck rfl) ?_
    refine wl (ro_fieldAddr (k := 6) rfl fo_199_6) ?_
    refine wl_put rfl rfl rfl sz_83 hG ((by show _ < (rws fnc R_).length; rw [rws_len fnc_len, op.l]; omega)) (rfl) (fun w1 hG F1 => ?_)
    have hF3 := (F1)
    replace hmf := hmf.framO hF3 hbn
    replace hms := hms.framO hF3 hbs
    refine wl_nil (x_then (hK3 _ _ ?_))
    clear hK3 K3
    refine forget [(5, _)] ⟨rfl, trivial⟩ (fun e => ?_)
    refine c_seq (fun K7 hK7 => ?_)
    refine c_reg ?_ -- region 6 fn.go:172
    refine wl (ro_move rfl) ?_
    refine wl (ro_assign rfl) ?_
    refine wl_nil (x_then (hK7 _ _ ?_))
    clear hK7 K7
    refine c_ret ?_
    refine bp_ret Tryz.results228 rfl ?_
    rw [hcon]
    exact ⟨rfl, hR.ksS op hl (.inl rfl) hF1 hon G1 hnb hF3 hG (by rw [numF_num hnk]; exact hmf) (by rw [strF_num]; exact hms)⟩
  · try simp only [decide_eq_true_eq, decide_eq_false_iff_not, Bool.not_eq_true', Bool.not_eq_false', Bool.not_eq_eq_eq_not, Bool.not_true, Bool.not_false, beq_iff_eq, bne_iff_ne, ne_eq, beq_eq_false_iff_ne, bne_eq_false_iff_eq, gt_iff_lt, ge_iff_le, Int.not_lt, Int.not_le] at hc17
    obtain ⟨k, hnk⟩ : ∃ k, numF (fsAt S f.j).ks x = some k := by
      cases h : numF (fsAt S f.j).ks x with
      | some k => exact ⟨k, rfl⟩
      | none => rw [h] at hc17; simp at hc17
    have hcon : conF f.j (vNum x) S = (k, S) := by
      unfold conF
      unfold numF at hnk
      rw [hnk]
    refine c_skip (x_then (hK3 _ _ ?_))
    clear hK3 K3
    refine forget [(5, _)] ⟨rfl, trivial⟩ (fun e => ?_)
    refine c_seq (fun K8 hK8 => ?_)
    refine c_reg ?_ -- region 6 fn.go:172
    refine wl (ro_move rfl) ?_
    refine wl (ro_assign rfl) ?_
    refine wl_nil (x_then (hK8 _ _ ?_))
    clear hK8 K8
    refine c_ret ?_
    refine bp_ret Tryz.results228 rfl ?_
    rw [hcon]
    exact ⟨by rw [hnk]; rfl, ow, Xt.refl _ _, Fram.refl _ _, hR⟩
set_option maxHeartbeats 4000000 in
theorem text229 (hR : CM E w ow O S (f :: q)) {x : Str} (hl : f.j < S.length) (hk : (fsAt S f.j).ks.length ≤ 60000) :
    Ret Tryz.prog 229 [fptr E f.j, Go.Proofs.Qxb6500568aGreatDoor.S x] w (fun r w' => r = u16c (conF f.j (vStr x) S).1 ∧ ZP E w ow O (conF f.j (vStr x) S).2 (f :: q) w') := by
  obtain ⟨R_, z_, op⟩ := hR.open (f := f) (by simp)
  have hG := op.B
  have hta := hR.ta
  have hj := op.j
  have hob : ∀ c, own1 (.slice z_.ka (fsAt S f.j).ks.length z_.kc) c → c ≠ E.gb := fun c y e => by have := op.ks.t _ y; rw [e, hta] at this; omega
  have hot : ∀ c, own1 (.slice z_.ka (fsAt S f.j).ks.length z_.kc) c → ow c = 240 + f.j := fun c y => op.ks.t _ y
  have hbn : z_.bs ≠ E.gb := fun e => by have := op.strs.2; rw [e, hta] at this; omega
  have hbs : z_.bn ≠ E.gb := fun e => by have := op.nums.2; rw [e, hta] at this; omega
  have hbb : z_.bn ≠ z_.bs := fun e => by have h1 := op.nums.2; have h2 := op.strs.2; rw [e] at h1; omega
  have h2n := op.strs.2
  have h2s := op.nums.2
  refine ret_of Tryz.func229 rfl Tryz.ntmps229 rfl ?_
  refine c_seq (fun K1 hK1 => ?_)
  refine c_reg ?_ -- region 0 fn.go:176
  refine wl (ro_assign rfl) ?_
  refine wl_nil (x_then (hK1 _ _ ?_))
  clear hK1 K1
  refine forget [(0, _), (1, _)] ⟨rfl, rfl, trivial⟩ (fun e => ?_)
  refine c_seq (fun K2 hK2 => ?_)
  refine c_reg ?_ -- region 1 fn.go:177
  refine wl (ro_move rfl) ?_
  refine wl (ro_nilCheck rfl) ?_
  refine wl (ro_fieldAddr (k := 8) rfl fo_199_8) ?_
  refine wl (ro_loadB rfl sc_195 hG (op.row 8 (by decide))) ?_
  refine wl (ro_move rfl) ?_
  refine wl (ro_mfLook (et := 201) (z := .int .u16 0) (vv := u16c) (f := strF (fsAt S f.j).ks) (a := x) keyS249 rfl rfl (by kernel_rfl) (by kernel_rfl) op.strs.1) ?_
  refine wl (ro_move rfl) ?_
  refine wl (ro_extract rfl rfl) ?_
  refine wl (ro_extract rfl rfl) ?_
  refine wl (ro_assign rfl) ?_
  refine wl (ro_assign rfl) ?_
  refine wl_nil (x_then (hK2 _ _ ?_))
  clear hK2 K2
  refine c_seq (fun K3 hK3 => ?_)
  refine c_seq (fun K4 hK4 => ?_)
  refine c_reg ?_ -- region 2 fn.go:178
  refine wl (ro_move rfl) ?_
  refine wl (ro_not rfl) ?_
  refine wl_nil (x_then (hK4 _ _ ?_))
  clear hK4 K4
  refine wc_cond rfl (fun hc17 => ?_) (fun hc17 => ?_)
  · try simp only [decide_eq_true_eq, decide_eq_false_iff_not, Bool.not_eq_true', Bool.not_eq_false', Bool.not_eq_eq_eq_not, Bool.not_true, Bool.not_false, beq_iff_eq, bne_iff_ne, ne_eq, beq_eq_false_iff_ne, bne_eq_false_iff_eq, gt_iff_lt, ge_iff_le, Int.not_lt, Int.not_le] at hc17
    have hnk : strF (fsAt S f.j).ks x = none := by simpa using hc17
    have hcon : conF f.j (vStr x) S = ((fsAt S f.j).ks.length, addK f.j (vStr x) S) := by
      unfold conF
      unfold strF at hnk
      rw [hnk]; rfl
    refine c_seq (fun K5 hK5 => ?_)
    refine c_reg ?_ -- region 3 fn.go:179
    refine wl (ro_move rfl) ?_
    refine wl (ro_nilCheck rfl) ?_
    refine wl (ro_fieldAddr (k := 6) rfl fo_199_6) ?_
    refine wl (ro_loadB rfl sc_83 hG (op.row 6 (by decide))) ?_
    refine wl (ro_lenL rfl se_83) ?_
    refine wl (ro_conv rfl sc_3 in_201 (Go.IntWalk.u16_in _ (by omega))) ?_
    refine wl (ro_assign rfl) ?_
    refine wl_nil (x_then (hK5 _ _ ?_))
    clear hK5 K5
    refine forget [(0, _), (1, _), (5, _)] ⟨rfl, rfl, rfl, trivial⟩ (fun e => ?_)
    refine c_seq (fun K6 hK6 => ?_)
    refine c_reg ?_ -- region 4 fn.go:180
    refine wl (ro_move rfl) ?_
    refine wl (ro_nilCheck rfl) ?_
    refine wl (ro_fieldAddr (k := 8) rfl fo_199_8) ?_
    refine wl (ro_loadB rfl sc_195 hG (op.row 8 (by decide))) ?_
    refine wl (ro_move rfl) ?_
    refine wl (ro_move rfl) ?_
    refine wl_mfUp (et := 201) (vv := u16c) (p := (fsAt S f.j).ks.length) (a := x) keyS249 rfl rfl rfl (by kernel_rfl) op.strs.1 ?_
    intro u1 hmf F1
    replace hG := F1.blkO hG (fun e => hbn e.symm)
    have hF1 : Fram (fun b => ow b = 340 + f.j) w u1 := F1.mono (fun b _ e => by have e : b = z_.bs := e; rw [e]; exact op.strs.2)
    have hms := op.nums.1.framO F1 hbb
    have hko := op.ks.o.fram F1 (fun b y e => by have e : b = z_.bs := e; have := op.ks.t b y; rw [e] at this; omega)
    refine wl_nil (x_then (hK6 _ _ ?_))
    clear hK6 K6
    refine c_reg ?_ -- region 5 fn.go:181
    refine wl (ro_move rfl) ?_
    refine wl (ro_move rfl) ?_
    refine wl (ro_nilCheck rfl) ?_
    refine wl (ro_fieldAddr (k := 6) rfl fo_199_6) ?_
    refine wl (ro_loadB rfl sc_83 hG (op.row 6 (by decide))) ?_
    refine wl (ro_move rfl) ?_
    refine wl (ro_build rfl bld_119_0_2) ?_
    refine wl_bsapp (t := 83) (et := 119) (k := 3) (m := (fsAt S f.j).ks.length) (cs := pvc (vStr x)) rfl rfl rfl rfl se_83 zx_119 by_119 rfl rfl rfl (pvc_one _) hko (by omega) (by omega) ?_
    intro v' u2 hon G1 hnb
    obtain ⟨va, vc, rfl⟩ := hon.form
    replace hG := G1.blkF hG (fun y => hob _ y rfl)
    replace hmf := hmf.fram G1 (fun y => by have := hot _ y; omega)
    replace hms := hms.fram G1 (fun y => by have := hot _ y; omega)
    skip
    refine wl (ro_nilCheck rfl) ?_
    refine wl (ro_fieldAddr (k := 6) rfl fo_199_6) ?_
    refine wl_put rfl rfl rfl sz_83 hG ((by show _ < (rws fnc R_).length; rw [rws_len fnc_len, op.l]; omega)) (rfl) (fun w1 hG F1 => ?_)
    have hF3 := (F1)
    replace hmf := hmf.framO hF3 hbn
    replace hms := hms.framO hF3 hbs
    refine wl_nil (x_then (hK3 _ _ ?_))
    clear hK3 K3
    refine forget [(5, _)] ⟨rfl, trivial⟩ (fun e => ?_)
    refine c_seq (fun K7 hK7 => ?_)
    refine c_reg ?_ -- region 6 fn.go:183
    refine wl (ro_move rfl) ?_
    refine wl (ro_assign rfl) ?_
    refine wl_nil (x_then (hK7 _ _ ?_))
    clear hK7 K7
    refine c_ret ?_
    refine bp_ret Tryz.results229 rfl ?_
    rw [hcon]
    exact ⟨rfl, hR.ksS op hl (.inr rfl) hF1 hon G1 hnb hF3 hG (by rw [numF_str]; exact hms) (by rw [strF_str hnk]; exact hmf)⟩
  · try simp only [decide_eq_true_eq, decide_eq_false_iff_not, Bool.not_eq_true', Bool.not_eq_false', Bool.not_eq_eq_eq_not, Bool.not_true, Bool.not_false, beq_iff_eq, bne_iff_ne, ne_eq, beq_eq_false_iff_ne, bne_eq_false_iff_eq, gt_iff_lt, ge_iff_le, Int.not_lt, Int.not_le] at hc17
    obtain ⟨k, hnk⟩ : ∃ k, strF (fsAt S f.j).ks x = some k := by
      cases h : strF (fsAt S f.j).ks x with
      | some k => exact ⟨k, rfl⟩
      | none => rw [h] at hc17; simp at hc17
    have hcon : conF f.j (vStr x) S = (k, S) := by
      unfold conF
      unfold strF at hnk
      rw [hnk]
    refine c_skip (x_then (hK3 _ _ ?_))
    clear hK3 K3
    refine forget [(5, _)] ⟨rfl, trivial⟩ (fun e => ?_)
    refine c_seq (fun K8 hK8 => ?_)
    refine c_reg ?_ -- region 6 fn.go:183
    refine wl (ro_move rfl) ?_
    refine wl (ro_assign rfl) ?_
    refine wl_nil (x_then (hK8 _ _ ?_))
    clear hK8 K8
    refine c_ret ?_
    refine bp_ret Tryz.results229 rfl ?_
    rw [hcon]
    exact ⟨by rw [hnk]; rfl, ow, Xt.refl _ _, Fram.refl _ _, hR⟩
end
end Go.Proofs.Qxb6500568aGreatDoor
